/- What the functions answer. -/
import Derived.Test.YtbfmbddafpbcpaaOMTypes
import Derived.Test.YtbfmbddafpbcpaaOMTac2
import Derived.Test.YtbfmbddafpbcpaaXOrderPc0
set_option linter.all false
namespace Go.Proofs.Ytbfmbddafpbcpaa.OM
set_option maxHeartbeats 4000000
set_option maxRecDepth 100000

def tab : List (Nat × PF) := [(2, pf2), (3, pf3), (36, pf36), (37, pf37), (117, pf117), (149, pf149), (150, pf150), (152, pf152), (153, pf153), (154, pf154), (155, pf155), (158, pf158), (159, pf159), (160, pf160), (165, pf165), (166, pf166), (175, pf175), (188, pf188), (190, pf190), (191, pf191), (193, pf193), (196, pf196), (197, pf197), (216, pf216), (217, pf217), (219, pf219), (220, pf220), (221, pf221), (222, pf222), (224, pf224), (225, pf225), (226, pf226), (231, pf231), (232, pf232), (241, pf241), (242, pf242), (244, pf244), (245, pf245), (246, pf246), (247, pf247), (250, pf250), (251, pf251), (252, pf252), (257, pf257), (258, pf258), (317, pf317), (405, pf405), (406, pf406), (407, pf407), (408, pf408), (409, pf409), (410, pf410)]
def TT (k : Nat) : Option PF := tab.lookup k

@[simp] theorem t244 (k0 : Bool) (l : List Int) (h : l.length ≤ 1048576)  : Gw TT 244 [.one (.ro k0 (.sl 1 (l.map ei)))] = some (.one (.own (.sl 1 (l.map ei))), []) := by
  refine Gw_of (F := pf244) rfl rfl ?_
  show Wp _ pb244 _ _
  unfold pb244
  repeat' (first
    | with_reducible (first | refine wp_seq ?_ | refine wp_blk ?_ | refine wp_skip ?_ | refine wp_exit ?_ | refine wp_ret ?_ | refine seqQ_norm ?_ | refine seqQ_ret ?_ | refine seqQ_exit ?_ | refine blkQ_norm ?_ | refine blkQ_ret ?_ | refine blkQ_exit ?_ | refine loopQ_norm ?_ | refine loopQ_exit ?_ | refine loopQ_ret ?_ | refine endQ_ret ?_ | refine endQ_norm ?_ | refine endE_ret ?_ | refine endE_norm ?_ | refine endI_ret ?_ | refine endI_norm ?_)
    | (with_reducible refine wp_regK fun K hK => ?_
       simp
       repeat' (with_reducible first | refine hK _ ?_ | (refine psel ?_ ?_ <;> (intro hc; (try rw [Decidable.not_not] at hc); first | (exfalso; omega) | (try simp [hc]))))
       all_goals (clear hK; clear K))
    | (with_reducible refine wp_condE ?_
       refine ⟨_, rfl, ?_, ?_⟩ <;> (intro hc; (try simp at hc); (all_goals first | (exfalso; omega) | skip))))
  · refine wp_loopI (σ := List Int × List Int) (fun s => [(0, AV.v k0 (D.sl 1 (List.map ei l)), none), (3, AV.pl 3 0 [], some (Rt.vir [C.own (D.sl 1 (s.1.map ei ++ List.replicate s.2.length [.int .i64 0]))])), (4, AV.v false (di (s.1.length : Nat)), none)]) (fun s => l = s.1 ++ s.2) (fun s => s.2.length) ([], l) (by simp) rfl ?_
    rintro ⟨pre, rest⟩ h1
    simp only at h1
    subst h1
    simp only [List.length_append, List.length_cons] at h
    rcases rest with _ | ⟨d, rest⟩
    · unfold pl244_0
      repeat' (first
        | with_reducible (first | refine wp_seq ?_ | refine wp_blk ?_ | refine wp_skip ?_ | refine wp_exit ?_ | refine wp_ret ?_ | refine seqQ_norm ?_ | refine seqQ_ret ?_ | refine seqQ_exit ?_ | refine blkQ_norm ?_ | refine blkQ_ret ?_ | refine blkQ_exit ?_ | refine loopQ_norm ?_ | refine loopQ_exit ?_ | refine loopQ_ret ?_ | refine endQ_ret ?_ | refine endQ_norm ?_ | refine endE_ret ?_ | refine endE_norm ?_ | refine endI_ret ?_ | refine endI_norm ?_)
        | (with_reducible refine wp_regK fun K hK => ?_
           simp
           repeat' (with_reducible first | refine hK _ ?_ | (refine psel ?_ ?_ <;> (intro hc; (try rw [Decidable.not_not] at hc); first | (exfalso; omega) | (try simp [hc]))))
           all_goals (clear hK; clear K))
        | (with_reducible refine wp_condE ?_
           refine ⟨_, rfl, ?_, ?_⟩ <;> (intro hc; (try simp at hc); (all_goals first | (exfalso; omega) | skip))))
      all_goals simp [pf244]
    · unfold pl244_0
      simp only [List.length_cons] at h
      have hw : IntKind.wrap .i64 ((pre.length : Int) + 1) = (pre.length : Int) + 1 := wrap_i64 (by omega) (by omega)
      repeat' (first
        | with_reducible (first | refine wp_seq ?_ | refine wp_blk ?_ | refine wp_skip ?_ | refine wp_exit ?_ | refine wp_ret ?_ | refine seqQ_norm ?_ | refine seqQ_ret ?_ | refine seqQ_exit ?_ | refine blkQ_norm ?_ | refine blkQ_ret ?_ | refine blkQ_exit ?_ | refine loopQ_norm ?_ | refine loopQ_exit ?_ | refine loopQ_ret ?_ | refine endQ_ret ?_ | refine endQ_norm ?_ | refine endE_ret ?_ | refine endE_norm ?_ | refine endI_ret ?_ | refine endI_norm ?_)
        | (with_reducible refine wp_regK fun K hK => ?_
           simp[List.replicate_succ, hw]
           repeat' (with_reducible first | refine hK _ ?_ | (refine psel ?_ ?_ <;> (intro hc; (try rw [Decidable.not_not] at hc); first | (exfalso; omega) | (try simp [hc, List.replicate_succ, hw]))))
           all_goals (clear hK; clear K))
        | (with_reducible refine wp_condE ?_
           refine ⟨_, rfl, ?_, ?_⟩ <;> (intro hc; (try simp at hc); (all_goals first | (exfalso; omega) | skip))))
      all_goals exact ⟨(pre ++ [d], rest), by simp, by simp, by simp⟩

@[simp] theorem t152 (k0 k1 : Bool) (l : List Int) (h : l.length ≤ 1048576)  : Gw TT 152 [.one (.ro k0 (.sl 1 (l.map ei))), .one (.ro k1 (.sl 1 (l.map ei)))] = some (vb true, []) := by
  refine Gw_of (F := pf152) rfl rfl ?_
  show Wp _ pb152 _ _
  unfold pb152
  repeat' (first
    | with_reducible (first | refine wp_seq ?_ | refine wp_blk ?_ | refine wp_skip ?_ | refine wp_exit ?_ | refine wp_ret ?_ | refine seqQ_norm ?_ | refine seqQ_ret ?_ | refine seqQ_exit ?_ | refine blkQ_norm ?_ | refine blkQ_ret ?_ | refine blkQ_exit ?_ | refine loopQ_norm ?_ | refine loopQ_exit ?_ | refine loopQ_ret ?_ | refine endQ_ret ?_ | refine endQ_norm ?_ | refine endE_ret ?_ | refine endE_norm ?_ | refine endI_ret ?_ | refine endI_norm ?_)
    | (with_reducible refine wp_regK fun K hK => ?_
       simp
       repeat' (with_reducible first | refine hK _ ?_ | (refine psel ?_ ?_ <;> (intro hc; (try rw [Decidable.not_not] at hc); first | (exfalso; omega) | (try simp [hc]))))
       all_goals (clear hK; clear K))
    | (with_reducible refine wp_condE ?_
       refine ⟨_, rfl, ?_, ?_⟩ <;> (intro hc; (try simp at hc); (all_goals first | (exfalso; omega) | skip))))
  · refine wp_loopI (σ := List Int × List Int) (fun s => [(0, AV.v k0 (D.sl 1 (List.map ei l)), none), (1, AV.v k1 (D.sl 1 (List.map ei l)), none), (5, AV.v false (di (s.1.length : Nat)), none)]) (fun s => l = s.1 ++ s.2) (fun s => s.2.length) ([], l) (by simp) rfl ?_
    rintro ⟨pre, rest⟩ h1
    simp only at h1
    subst h1
    simp only [List.length_append, List.length_cons] at h
    rcases rest with _ | ⟨d, rest⟩
    · unfold pl152_0
      repeat' (first
        | with_reducible (first | refine wp_seq ?_ | refine wp_blk ?_ | refine wp_skip ?_ | refine wp_exit ?_ | refine wp_ret ?_ | refine seqQ_norm ?_ | refine seqQ_ret ?_ | refine seqQ_exit ?_ | refine blkQ_norm ?_ | refine blkQ_ret ?_ | refine blkQ_exit ?_ | refine loopQ_norm ?_ | refine loopQ_exit ?_ | refine loopQ_ret ?_ | refine endQ_ret ?_ | refine endQ_norm ?_ | refine endE_ret ?_ | refine endE_norm ?_ | refine endI_ret ?_ | refine endI_norm ?_)
        | (with_reducible refine wp_regK fun K hK => ?_
           simp
           repeat' (with_reducible first | refine hK _ ?_ | (refine psel ?_ ?_ <;> (intro hc; (try rw [Decidable.not_not] at hc); first | (exfalso; omega) | (try simp [hc]))))
           all_goals (clear hK; clear K))
        | (with_reducible refine wp_condE ?_
           refine ⟨_, rfl, ?_, ?_⟩ <;> (intro hc; (try simp at hc); (all_goals first | (exfalso; omega) | skip))))
      all_goals simp [pf152]
    · unfold pl152_0
      simp only [List.length_cons] at h
      have hw : IntKind.wrap .i64 ((pre.length : Int) + 1) = (pre.length : Int) + 1 := wrap_i64 (by omega) (by omega)
      repeat' (first
        | with_reducible (first | refine wp_seq ?_ | refine wp_blk ?_ | refine wp_skip ?_ | refine wp_exit ?_ | refine wp_ret ?_ | refine seqQ_norm ?_ | refine seqQ_ret ?_ | refine seqQ_exit ?_ | refine blkQ_norm ?_ | refine blkQ_ret ?_ | refine blkQ_exit ?_ | refine loopQ_norm ?_ | refine loopQ_exit ?_ | refine loopQ_ret ?_ | refine endQ_ret ?_ | refine endQ_norm ?_ | refine endE_ret ?_ | refine endE_norm ?_ | refine endI_ret ?_ | refine endI_norm ?_)
        | (with_reducible refine wp_regK fun K hK => ?_
           simp[hw]
           repeat' (with_reducible first | refine hK _ ?_ | (refine psel ?_ ?_ <;> (intro hc; (try rw [Decidable.not_not] at hc); first | (exfalso; omega) | (try simp [hc, hw]))))
           all_goals (clear hK; clear K))
        | (with_reducible refine wp_condE ?_
           refine ⟨_, rfl, ?_, ?_⟩ <;> (intro hc; (try simp at hc); (all_goals first | (exfalso; omega) | skip))))
      all_goals exact ⟨(pre ++ [d], rest), by simp, by simp, by simp⟩

@[simp] theorem t257 (x_Ty : Int) (x_N : Int) (x_S : ByteArray)  : Gw TT 257 [.st [.ro false (di x_Ty), .ro false (di x_N), .ro false (.str x_S)]] = some (.st [.ro false (di x_Ty), .ro false (di x_N), .ro false (.str x_S)], []) := by
  refine Gw_of (F := pf257) rfl rfl ?_
  show Wp _ pb257 _ _
  unfold pb257
  repeat' (first
    | with_reducible (first | refine wp_seq ?_ | refine wp_blk ?_ | refine wp_skip ?_ | refine wp_exit ?_ | refine wp_ret ?_ | refine seqQ_norm ?_ | refine seqQ_ret ?_ | refine seqQ_exit ?_ | refine blkQ_norm ?_ | refine blkQ_ret ?_ | refine blkQ_exit ?_ | refine loopQ_norm ?_ | refine loopQ_exit ?_ | refine loopQ_ret ?_ | refine endQ_ret ?_ | refine endQ_norm ?_ | refine endE_ret ?_ | refine endE_norm ?_ | refine endI_ret ?_ | refine endI_norm ?_)
    | (with_reducible refine wp_regK fun K hK => ?_
       simp
       repeat' (with_reducible first | refine hK _ ?_ | (refine psel ?_ ?_ <;> (intro hc; (try rw [Decidable.not_not] at hc); first | (exfalso; omega) | (try simp [hc]))))
       all_goals (clear hK; clear K))
    | (with_reducible refine wp_condE ?_
       refine ⟨_, rfl, ?_, ?_⟩ <;> (intro hc; (try simp at hc); (all_goals first | (exfalso; omega) | skip))))
  all_goals simp [pf257]

@[simp] theorem t258 (k0 : Bool) (l : List XVal) (h : l.length ≤ 1048576) (hs : XVal.sms l) : Gw TT 258 [.one (.ro k0 (.sl 3 (l.map XVal.e)))] = some (.one (.own (.sl 3 (l.map XVal.e))), []) := by
  refine Gw_of (F := pf258) rfl rfl ?_
  show Wp _ pb258 _ _
  unfold pb258
  repeat' (first
    | with_reducible (first | refine wp_seq ?_ | refine wp_blk ?_ | refine wp_skip ?_ | refine wp_exit ?_ | refine wp_ret ?_ | refine seqQ_norm ?_ | refine seqQ_ret ?_ | refine seqQ_exit ?_ | refine blkQ_norm ?_ | refine blkQ_ret ?_ | refine blkQ_exit ?_ | refine loopQ_norm ?_ | refine loopQ_exit ?_ | refine loopQ_ret ?_ | refine endQ_ret ?_ | refine endQ_norm ?_ | refine endE_ret ?_ | refine endE_norm ?_ | refine endI_ret ?_ | refine endI_norm ?_)
    | (with_reducible refine wp_regK fun K hK => ?_
       simp
       repeat' (with_reducible first | refine hK _ ?_ | (refine psel ?_ ?_ <;> (intro hc; (try rw [Decidable.not_not] at hc); first | (exfalso; omega) | (try simp [hc]))))
       all_goals (clear hK; clear K))
    | (with_reducible refine wp_condE ?_
       refine ⟨_, rfl, ?_, ?_⟩ <;> (intro hc; (try simp at hc); (all_goals first | (exfalso; omega) | skip))))
  · refine wp_loopI (σ := List XVal × List XVal) (fun s => [(0, AV.v k0 (D.sl 3 (List.map XVal.e l)), none), (3, AV.pl 3 0 [], some (Rt.vir [C.own (D.sl 3 (s.1.map XVal.e ++ List.replicate s.2.length [.int .i64 0, .int .i64 0, .str ⟨#[]⟩]))])), (4, AV.v false (di (s.1.length : Nat)), none)]) (fun s => l = s.1 ++ s.2) (fun s => s.2.length) ([], l) (by simp) rfl ?_
    rintro ⟨pre, rest⟩ h1
    simp only at h1
    subst h1
    simp only [List.length_append, List.length_cons] at h
    rcases rest with _ | ⟨⟨y_Ty, y_N, y_S⟩, rest⟩
    · unfold pl258_0
      repeat' (first
        | with_reducible (first | refine wp_seq ?_ | refine wp_blk ?_ | refine wp_skip ?_ | refine wp_exit ?_ | refine wp_ret ?_ | refine seqQ_norm ?_ | refine seqQ_ret ?_ | refine seqQ_exit ?_ | refine blkQ_norm ?_ | refine blkQ_ret ?_ | refine blkQ_exit ?_ | refine loopQ_norm ?_ | refine loopQ_exit ?_ | refine loopQ_ret ?_ | refine endQ_ret ?_ | refine endQ_norm ?_ | refine endE_ret ?_ | refine endE_norm ?_ | refine endI_ret ?_ | refine endI_norm ?_)
        | (with_reducible refine wp_regK fun K hK => ?_
           simp
           repeat' (with_reducible first | refine hK _ ?_ | (refine psel ?_ ?_ <;> (intro hc; (try rw [Decidable.not_not] at hc); first | (exfalso; omega) | (try simp [hc]))))
           all_goals (clear hK; clear K))
        | (with_reducible refine wp_condE ?_
           refine ⟨_, rfl, ?_, ?_⟩ <;> (intro hc; (try simp at hc); (all_goals first | (exfalso; omega) | skip))))
      all_goals simp [pf258]
    · unfold pl258_0
      simp only [List.length_cons] at h
      have hw : IntKind.wrap .i64 ((pre.length : Int) + 1) = (pre.length : Int) + 1 := wrap_i64 (by omega) (by omega)
      have hd := hs ⟨y_Ty, y_N, y_S⟩ (by simp)
      simp only [XVal.sm, and_assoc] at hd
      have hsm_y_S := hd
      repeat' (first
        | with_reducible (first | refine wp_seq ?_ | refine wp_blk ?_ | refine wp_skip ?_ | refine wp_exit ?_ | refine wp_ret ?_ | refine seqQ_norm ?_ | refine seqQ_ret ?_ | refine seqQ_exit ?_ | refine blkQ_norm ?_ | refine blkQ_ret ?_ | refine blkQ_exit ?_ | refine loopQ_norm ?_ | refine loopQ_exit ?_ | refine loopQ_ret ?_ | refine endQ_ret ?_ | refine endQ_norm ?_ | refine endE_ret ?_ | refine endE_norm ?_ | refine endI_ret ?_ | refine endI_norm ?_)
        | (with_reducible refine wp_regK fun K hK => ?_
           simp[List.replicate_succ, hw, hsm_y_S]
           repeat' (with_reducible first | refine hK _ ?_ | (refine psel ?_ ?_ <;> (intro hc; (try rw [Decidable.not_not] at hc); first | (exfalso; omega) | (try simp [hc, List.replicate_succ, hw, hsm_y_S]))))
           all_goals (clear hK; clear K))
        | (with_reducible refine wp_condE ?_
           refine ⟨_, rfl, ?_, ?_⟩ <;> (intro hc; (try simp at hc); (all_goals first | (exfalso; omega) | skip))))
      all_goals exact ⟨(pre ++ [⟨y_Ty, y_N, y_S⟩], rest), by simp, by simp, by simp⟩

@[simp] theorem t165 (x_Ty : Int) (x_N : Int) (x_S : ByteArray)  : Gw TT 165 [.st [.ro false (di x_Ty), .ro false (di x_N), .ro false (.str x_S)], .st [.ro false (di x_Ty), .ro false (di x_N), .ro false (.str x_S)]] = some (vb true, []) := by
  refine Gw_of (F := pf165) rfl rfl ?_
  show Wp _ pb165 _ _
  unfold pb165
  repeat' (first
    | with_reducible (first | refine wp_seq ?_ | refine wp_blk ?_ | refine wp_skip ?_ | refine wp_exit ?_ | refine wp_ret ?_ | refine seqQ_norm ?_ | refine seqQ_ret ?_ | refine seqQ_exit ?_ | refine blkQ_norm ?_ | refine blkQ_ret ?_ | refine blkQ_exit ?_ | refine loopQ_norm ?_ | refine loopQ_exit ?_ | refine loopQ_ret ?_ | refine endQ_ret ?_ | refine endQ_norm ?_ | refine endE_ret ?_ | refine endE_norm ?_ | refine endI_ret ?_ | refine endI_norm ?_)
    | (with_reducible refine wp_regK fun K hK => ?_
       simp
       repeat' (with_reducible first | refine hK _ ?_ | (refine psel ?_ ?_ <;> (intro hc; (try rw [Decidable.not_not] at hc); first | (exfalso; omega) | (try simp [hc]))))
       all_goals (clear hK; clear K))
    | (with_reducible refine wp_condE ?_
       refine ⟨_, rfl, ?_, ?_⟩ <;> (intro hc; (try simp at hc); (all_goals first | (exfalso; omega) | skip))))
  all_goals simp [pf165]

@[simp] theorem t166 (k0 k1 : Bool) (l : List XVal) (h : l.length ≤ 1048576) (hs : XVal.sms l) : Gw TT 166 [.one (.ro k0 (.sl 3 (l.map XVal.e))), .one (.ro k1 (.sl 3 (l.map XVal.e)))] = some (vb true, []) := by
  refine Gw_of (F := pf166) rfl rfl ?_
  show Wp _ pb166 _ _
  unfold pb166
  repeat' (first
    | with_reducible (first | refine wp_seq ?_ | refine wp_blk ?_ | refine wp_skip ?_ | refine wp_exit ?_ | refine wp_ret ?_ | refine seqQ_norm ?_ | refine seqQ_ret ?_ | refine seqQ_exit ?_ | refine blkQ_norm ?_ | refine blkQ_ret ?_ | refine blkQ_exit ?_ | refine loopQ_norm ?_ | refine loopQ_exit ?_ | refine loopQ_ret ?_ | refine endQ_ret ?_ | refine endQ_norm ?_ | refine endE_ret ?_ | refine endE_norm ?_ | refine endI_ret ?_ | refine endI_norm ?_)
    | (with_reducible refine wp_regK fun K hK => ?_
       simp
       repeat' (with_reducible first | refine hK _ ?_ | (refine psel ?_ ?_ <;> (intro hc; (try rw [Decidable.not_not] at hc); first | (exfalso; omega) | (try simp [hc]))))
       all_goals (clear hK; clear K))
    | (with_reducible refine wp_condE ?_
       refine ⟨_, rfl, ?_, ?_⟩ <;> (intro hc; (try simp at hc); (all_goals first | (exfalso; omega) | skip))))
  · refine wp_loopI (σ := List XVal × List XVal) (fun s => [(0, AV.v k0 (D.sl 3 (List.map XVal.e l)), none), (1, AV.v k1 (D.sl 3 (List.map XVal.e l)), none), (5, AV.v false (di (s.1.length : Nat)), none)]) (fun s => l = s.1 ++ s.2) (fun s => s.2.length) ([], l) (by simp) rfl ?_
    rintro ⟨pre, rest⟩ h1
    simp only at h1
    subst h1
    simp only [List.length_append, List.length_cons] at h
    rcases rest with _ | ⟨⟨y_Ty, y_N, y_S⟩, rest⟩
    · unfold pl166_0
      repeat' (first
        | with_reducible (first | refine wp_seq ?_ | refine wp_blk ?_ | refine wp_skip ?_ | refine wp_exit ?_ | refine wp_ret ?_ | refine seqQ_norm ?_ | refine seqQ_ret ?_ | refine seqQ_exit ?_ | refine blkQ_norm ?_ | refine blkQ_ret ?_ | refine blkQ_exit ?_ | refine loopQ_norm ?_ | refine loopQ_exit ?_ | refine loopQ_ret ?_ | refine endQ_ret ?_ | refine endQ_norm ?_ | refine endE_ret ?_ | refine endE_norm ?_ | refine endI_ret ?_ | refine endI_norm ?_)
        | (with_reducible refine wp_regK fun K hK => ?_
           simp
           repeat' (with_reducible first | refine hK _ ?_ | (refine psel ?_ ?_ <;> (intro hc; (try rw [Decidable.not_not] at hc); first | (exfalso; omega) | (try simp [hc]))))
           all_goals (clear hK; clear K))
        | (with_reducible refine wp_condE ?_
           refine ⟨_, rfl, ?_, ?_⟩ <;> (intro hc; (try simp at hc); (all_goals first | (exfalso; omega) | skip))))
      all_goals simp [pf166]
    · unfold pl166_0
      simp only [List.length_cons] at h
      have hw : IntKind.wrap .i64 ((pre.length : Int) + 1) = (pre.length : Int) + 1 := wrap_i64 (by omega) (by omega)
      have hd := hs ⟨y_Ty, y_N, y_S⟩ (by simp)
      simp only [XVal.sm, and_assoc] at hd
      have hsm_y_S := hd
      repeat' (first
        | with_reducible (first | refine wp_seq ?_ | refine wp_blk ?_ | refine wp_skip ?_ | refine wp_exit ?_ | refine wp_ret ?_ | refine seqQ_norm ?_ | refine seqQ_ret ?_ | refine seqQ_exit ?_ | refine blkQ_norm ?_ | refine blkQ_ret ?_ | refine blkQ_exit ?_ | refine loopQ_norm ?_ | refine loopQ_exit ?_ | refine loopQ_ret ?_ | refine endQ_ret ?_ | refine endQ_norm ?_ | refine endE_ret ?_ | refine endE_norm ?_ | refine endI_ret ?_ | refine endI_norm ?_)
        | (with_reducible refine wp_regK fun K hK => ?_
           simp[hw, hsm_y_S]
           repeat' (with_reducible first | refine hK _ ?_ | (refine psel ?_ ?_ <;> (intro hc; (try rw [Decidable.not_not] at hc); first | (exfalso; omega) | (try simp [hc, hw, hsm_y_S]))))
           all_goals (clear hK; clear K))
        | (with_reducible refine wp_condE ?_
           refine ⟨_, rfl, ?_, ?_⟩ <;> (intro hc; (try simp at hc); (all_goals first | (exfalso; omega) | skip))))
      all_goals exact ⟨(pre ++ [⟨y_Ty, y_N, y_S⟩], rest), by simp, by simp, by simp⟩

@[simp] theorem t251 (k0 : Bool) (x_Id : Int) (x_L : List XVal) (hsm_x_L : x_L.length ≤ 1048576) (hsms_x_L : XVal.sms x_L) : Gw TT 251 [.st [.ro false (di x_Id), .ro k0 (.sl 3 (x_L.map XVal.e))]] = some (.st [.ro false (di x_Id), .own (.sl 3 (x_L.map XVal.e))], []) := by
  refine Gw_of (F := pf251) rfl rfl ?_
  show Wp _ pb251 _ _
  unfold pb251
  repeat' (first
    | with_reducible (first | refine wp_seq ?_ | refine wp_blk ?_ | refine wp_skip ?_ | refine wp_exit ?_ | refine wp_ret ?_ | refine seqQ_norm ?_ | refine seqQ_ret ?_ | refine seqQ_exit ?_ | refine blkQ_norm ?_ | refine blkQ_ret ?_ | refine blkQ_exit ?_ | refine loopQ_norm ?_ | refine loopQ_exit ?_ | refine loopQ_ret ?_ | refine endQ_ret ?_ | refine endQ_norm ?_ | refine endE_ret ?_ | refine endE_norm ?_ | refine endI_ret ?_ | refine endI_norm ?_)
    | (with_reducible refine wp_regK fun K hK => ?_
       simp[hsm_x_L, hsms_x_L]
       repeat' (with_reducible first | refine hK _ ?_ | (refine psel ?_ ?_ <;> (intro hc; (try rw [Decidable.not_not] at hc); first | (exfalso; omega) | (try simp [hc, hsm_x_L, hsms_x_L]))))
       all_goals (clear hK; clear K))
    | (with_reducible refine wp_condE ?_
       refine ⟨_, rfl, ?_, ?_⟩ <;> (intro hc; (try simp at hc); (all_goals first | (exfalso; omega) | skip))))
  all_goals simp [pf251]

@[simp] theorem t252 (k0 : Bool) (l : List XRow) (h : l.length ≤ 1048576) (hs : XRow.sms l) : Gw TT 252 [.one (.ro k0 (.sl 2 (l.map XRow.e)))] = some (.one (.own (.sl 2 (l.map XRow.e))), []) := by
  refine Gw_of (F := pf252) rfl rfl ?_
  show Wp _ pb252 _ _
  unfold pb252
  repeat' (first
    | with_reducible (first | refine wp_seq ?_ | refine wp_blk ?_ | refine wp_skip ?_ | refine wp_exit ?_ | refine wp_ret ?_ | refine seqQ_norm ?_ | refine seqQ_ret ?_ | refine seqQ_exit ?_ | refine blkQ_norm ?_ | refine blkQ_ret ?_ | refine blkQ_exit ?_ | refine loopQ_norm ?_ | refine loopQ_exit ?_ | refine loopQ_ret ?_ | refine endQ_ret ?_ | refine endQ_norm ?_ | refine endE_ret ?_ | refine endE_norm ?_ | refine endI_ret ?_ | refine endI_norm ?_)
    | (with_reducible refine wp_regK fun K hK => ?_
       simp
       repeat' (with_reducible first | refine hK _ ?_ | (refine psel ?_ ?_ <;> (intro hc; (try rw [Decidable.not_not] at hc); first | (exfalso; omega) | (try simp [hc]))))
       all_goals (clear hK; clear K))
    | (with_reducible refine wp_condE ?_
       refine ⟨_, rfl, ?_, ?_⟩ <;> (intro hc; (try simp at hc); (all_goals first | (exfalso; omega) | skip))))
  · refine wp_loopI (σ := List XRow × List XRow) (fun s => [(0, AV.v k0 (D.sl 2 (List.map XRow.e l)), none), (3, AV.pl 3 0 [], some (Rt.vir [C.own (D.sl 2 (s.1.map XRow.e ++ List.replicate s.2.length [.int .i64 0, .sl 3 []]))])), (4, AV.v false (di (s.1.length : Nat)), none)]) (fun s => l = s.1 ++ s.2) (fun s => s.2.length) ([], l) (by simp) rfl ?_
    rintro ⟨pre, rest⟩ h1
    simp only at h1
    subst h1
    simp only [List.length_append, List.length_cons] at h
    rcases rest with _ | ⟨⟨y_Id, y_L⟩, rest⟩
    · unfold pl252_0
      repeat' (first
        | with_reducible (first | refine wp_seq ?_ | refine wp_blk ?_ | refine wp_skip ?_ | refine wp_exit ?_ | refine wp_ret ?_ | refine seqQ_norm ?_ | refine seqQ_ret ?_ | refine seqQ_exit ?_ | refine blkQ_norm ?_ | refine blkQ_ret ?_ | refine blkQ_exit ?_ | refine loopQ_norm ?_ | refine loopQ_exit ?_ | refine loopQ_ret ?_ | refine endQ_ret ?_ | refine endQ_norm ?_ | refine endE_ret ?_ | refine endE_norm ?_ | refine endI_ret ?_ | refine endI_norm ?_)
        | (with_reducible refine wp_regK fun K hK => ?_
           simp
           repeat' (with_reducible first | refine hK _ ?_ | (refine psel ?_ ?_ <;> (intro hc; (try rw [Decidable.not_not] at hc); first | (exfalso; omega) | (try simp [hc]))))
           all_goals (clear hK; clear K))
        | (with_reducible refine wp_condE ?_
           refine ⟨_, rfl, ?_, ?_⟩ <;> (intro hc; (try simp at hc); (all_goals first | (exfalso; omega) | skip))))
      all_goals simp [pf252]
    · unfold pl252_0
      simp only [List.length_cons] at h
      have hw : IntKind.wrap .i64 ((pre.length : Int) + 1) = (pre.length : Int) + 1 := wrap_i64 (by omega) (by omega)
      have hd := hs ⟨y_Id, y_L⟩ (by simp)
      simp only [XRow.sm, and_assoc] at hd
      obtain ⟨hsm_y_L, hsms_y_L⟩ := hd
      repeat' (first
        | with_reducible (first | refine wp_seq ?_ | refine wp_blk ?_ | refine wp_skip ?_ | refine wp_exit ?_ | refine wp_ret ?_ | refine seqQ_norm ?_ | refine seqQ_ret ?_ | refine seqQ_exit ?_ | refine blkQ_norm ?_ | refine blkQ_ret ?_ | refine blkQ_exit ?_ | refine loopQ_norm ?_ | refine loopQ_exit ?_ | refine loopQ_ret ?_ | refine endQ_ret ?_ | refine endQ_norm ?_ | refine endE_ret ?_ | refine endE_norm ?_ | refine endI_ret ?_ | refine endI_norm ?_)
        | (with_reducible refine wp_regK fun K hK => ?_
           simp[List.replicate_succ, hw, hsm_y_L, hsms_y_L]
           repeat' (with_reducible first | refine hK _ ?_ | (refine psel ?_ ?_ <;> (intro hc; (try rw [Decidable.not_not] at hc); first | (exfalso; omega) | (try simp [hc, List.replicate_succ, hw, hsm_y_L, hsms_y_L]))))
           all_goals (clear hK; clear K))
        | (with_reducible refine wp_condE ?_
           refine ⟨_, rfl, ?_, ?_⟩ <;> (intro hc; (try simp at hc); (all_goals first | (exfalso; omega) | skip))))
      all_goals exact ⟨(pre ++ [⟨y_Id, y_L⟩], rest), by simp, by simp, by simp⟩

@[simp] theorem t159 (k0 k1 : Bool) (x_Id : Int) (x_L : List XVal) (hok_x_L : x_L.length ≤ 1048576) (hoks_x_L : XVal.sms x_L) : Gw TT 159 [.st [.ro false (di x_Id), .ro k0 (.sl 3 (x_L.map XVal.e))], .st [.ro false (di x_Id), .ro k1 (.sl 3 (x_L.map XVal.e))]] = some (vb true, []) := by
  refine Gw_of (F := pf159) rfl rfl ?_
  show Wp _ pb159 _ _
  unfold pb159
  repeat' (first
    | with_reducible (first | refine wp_seq ?_ | refine wp_blk ?_ | refine wp_skip ?_ | refine wp_exit ?_ | refine wp_ret ?_ | refine seqQ_norm ?_ | refine seqQ_ret ?_ | refine seqQ_exit ?_ | refine blkQ_norm ?_ | refine blkQ_ret ?_ | refine blkQ_exit ?_ | refine loopQ_norm ?_ | refine loopQ_exit ?_ | refine loopQ_ret ?_ | refine endQ_ret ?_ | refine endQ_norm ?_ | refine endE_ret ?_ | refine endE_norm ?_ | refine endI_ret ?_ | refine endI_norm ?_)
    | (with_reducible refine wp_regK fun K hK => ?_
       simp[hok_x_L, hoks_x_L]
       repeat' (with_reducible first | refine hK _ ?_ | (refine psel ?_ ?_ <;> (intro hc; (try rw [Decidable.not_not] at hc); first | (exfalso; omega) | (try simp [hc, hok_x_L, hoks_x_L]))))
       all_goals (clear hK; clear K))
    | (with_reducible refine wp_condE ?_
       refine ⟨_, rfl, ?_, ?_⟩ <;> (intro hc; (try simp at hc); (all_goals first | (exfalso; omega) | skip))))
  all_goals simp [pf159]

@[simp] theorem t160 (k0 k1 : Bool) (l : List XRow) (h : l.length ≤ 1048576) (hs : XRow.sms l) : Gw TT 160 [.one (.ro k0 (.sl 2 (l.map XRow.e))), .one (.ro k1 (.sl 2 (l.map XRow.e)))] = some (vb true, []) := by
  refine Gw_of (F := pf160) rfl rfl ?_
  show Wp _ pb160 _ _
  unfold pb160
  repeat' (first
    | with_reducible (first | refine wp_seq ?_ | refine wp_blk ?_ | refine wp_skip ?_ | refine wp_exit ?_ | refine wp_ret ?_ | refine seqQ_norm ?_ | refine seqQ_ret ?_ | refine seqQ_exit ?_ | refine blkQ_norm ?_ | refine blkQ_ret ?_ | refine blkQ_exit ?_ | refine loopQ_norm ?_ | refine loopQ_exit ?_ | refine loopQ_ret ?_ | refine endQ_ret ?_ | refine endQ_norm ?_ | refine endE_ret ?_ | refine endE_norm ?_ | refine endI_ret ?_ | refine endI_norm ?_)
    | (with_reducible refine wp_regK fun K hK => ?_
       simp
       repeat' (with_reducible first | refine hK _ ?_ | (refine psel ?_ ?_ <;> (intro hc; (try rw [Decidable.not_not] at hc); first | (exfalso; omega) | (try simp [hc]))))
       all_goals (clear hK; clear K))
    | (with_reducible refine wp_condE ?_
       refine ⟨_, rfl, ?_, ?_⟩ <;> (intro hc; (try simp at hc); (all_goals first | (exfalso; omega) | skip))))
  · refine wp_loopI (σ := List XRow × List XRow) (fun s => [(0, AV.v k0 (D.sl 2 (List.map XRow.e l)), none), (1, AV.v k1 (D.sl 2 (List.map XRow.e l)), none), (5, AV.v false (di (s.1.length : Nat)), none)]) (fun s => l = s.1 ++ s.2) (fun s => s.2.length) ([], l) (by simp) rfl ?_
    rintro ⟨pre, rest⟩ h1
    simp only at h1
    subst h1
    simp only [List.length_append, List.length_cons] at h
    rcases rest with _ | ⟨⟨y_Id, y_L⟩, rest⟩
    · unfold pl160_0
      repeat' (first
        | with_reducible (first | refine wp_seq ?_ | refine wp_blk ?_ | refine wp_skip ?_ | refine wp_exit ?_ | refine wp_ret ?_ | refine seqQ_norm ?_ | refine seqQ_ret ?_ | refine seqQ_exit ?_ | refine blkQ_norm ?_ | refine blkQ_ret ?_ | refine blkQ_exit ?_ | refine loopQ_norm ?_ | refine loopQ_exit ?_ | refine loopQ_ret ?_ | refine endQ_ret ?_ | refine endQ_norm ?_ | refine endE_ret ?_ | refine endE_norm ?_ | refine endI_ret ?_ | refine endI_norm ?_)
        | (with_reducible refine wp_regK fun K hK => ?_
           simp
           repeat' (with_reducible first | refine hK _ ?_ | (refine psel ?_ ?_ <;> (intro hc; (try rw [Decidable.not_not] at hc); first | (exfalso; omega) | (try simp [hc]))))
           all_goals (clear hK; clear K))
        | (with_reducible refine wp_condE ?_
           refine ⟨_, rfl, ?_, ?_⟩ <;> (intro hc; (try simp at hc); (all_goals first | (exfalso; omega) | skip))))
      all_goals simp [pf160]
    · unfold pl160_0
      simp only [List.length_cons] at h
      have hw : IntKind.wrap .i64 ((pre.length : Int) + 1) = (pre.length : Int) + 1 := wrap_i64 (by omega) (by omega)
      have hd := hs ⟨y_Id, y_L⟩ (by simp)
      simp only [XRow.sm, and_assoc] at hd
      obtain ⟨hsm_y_L, hsms_y_L⟩ := hd
      repeat' (first
        | with_reducible (first | refine wp_seq ?_ | refine wp_blk ?_ | refine wp_skip ?_ | refine wp_exit ?_ | refine wp_ret ?_ | refine seqQ_norm ?_ | refine seqQ_ret ?_ | refine seqQ_exit ?_ | refine blkQ_norm ?_ | refine blkQ_ret ?_ | refine blkQ_exit ?_ | refine loopQ_norm ?_ | refine loopQ_exit ?_ | refine loopQ_ret ?_ | refine endQ_ret ?_ | refine endQ_norm ?_ | refine endE_ret ?_ | refine endE_norm ?_ | refine endI_ret ?_ | refine endI_norm ?_)
        | (with_reducible refine wp_regK fun K hK => ?_
           simp[hw, hsm_y_L, hsms_y_L]
           repeat' (with_reducible first | refine hK _ ?_ | (refine psel ?_ ?_ <;> (intro hc; (try rw [Decidable.not_not] at hc); first | (exfalso; omega) | (try simp [hc, hw, hsm_y_L, hsms_y_L]))))
           all_goals (clear hK; clear K))
        | (with_reducible refine wp_condE ?_
           refine ⟨_, rfl, ?_, ?_⟩ <;> (intro hc; (try simp at hc); (all_goals first | (exfalso; omega) | skip))))
      all_goals exact ⟨(pre ++ [⟨y_Id, y_L⟩], rest), by simp, by simp, by simp⟩

def ToPred (x : XPred) : Prop := ∀ k0 : Bool, x.sm → Gw TT 245 [.st [.ro false (di x.Kind), .ro false (di x.Col), .ro false (di x.Op), .ro false (di x.V.Ty), .ro false (di x.V.N), .ro false (.str x.V.S), .ro k0 (.sl 7 (x.L.map XPred.e))]] = some (.st [.ro false (di x.Kind), .ro false (di x.Col), .ro false (di x.Op), .ro false (di x.V.Ty), .ro false (di x.V.N), .ro false (.str x.V.S), .own (.sl 7 (x.L.map XPred.e))], [])
def ToPreds (l : List XPred) : Prop := ∀ k0 : Bool, l.length ≤ 1048576 → XPred.sms l → Gw TT 246 [.one (.ro k0 (.sl 7 (l.map XPred.e)))] = some (.one (.own (.sl 7 (l.map XPred.e))), [])

theorem ToPreds_of (l : List XPred) (IH : ∀ y ∈ l, ToPred y) : ToPreds l := by
  intro k0 h hs
  refine Gw_of (F := pf246) rfl rfl ?_
  show Wp _ pb246 _ _
  unfold pb246
  repeat' (first
    | with_reducible (first | refine wp_seq ?_ | refine wp_blk ?_ | refine wp_skip ?_ | refine wp_exit ?_ | refine wp_ret ?_ | refine seqQ_norm ?_ | refine seqQ_ret ?_ | refine seqQ_exit ?_ | refine blkQ_norm ?_ | refine blkQ_ret ?_ | refine blkQ_exit ?_ | refine loopQ_norm ?_ | refine loopQ_exit ?_ | refine loopQ_ret ?_ | refine endQ_ret ?_ | refine endQ_norm ?_ | refine endE_ret ?_ | refine endE_norm ?_ | refine endI_ret ?_ | refine endI_norm ?_)
    | (with_reducible refine wp_regK fun K hK => ?_
       simp
       repeat' (with_reducible first | refine hK _ ?_ | (refine psel ?_ ?_ <;> (intro hc; (try rw [Decidable.not_not] at hc); first | (exfalso; omega) | (try simp [hc]))))
       all_goals (clear hK; clear K))
    | (with_reducible refine wp_condE ?_
       refine ⟨_, rfl, ?_, ?_⟩ <;> (intro hc; (try simp at hc); (all_goals first | (exfalso; omega) | skip))))
  · refine wp_loopI (σ := List XPred × List XPred) (fun s => [(0, AV.v k0 (D.sl 7 (List.map XPred.e l)), none), (3, AV.pl 3 0 [], some (Rt.vir [C.own (D.sl 7 (s.1.map XPred.e ++ List.replicate s.2.length [.int .i64 0, .int .i64 0, .int .i64 0, .int .i64 0, .int .i64 0, .str ⟨#[]⟩, .sl 7 []]))])), (4, AV.v false (di (s.1.length : Nat)), none)]) (fun s => l = s.1 ++ s.2) (fun s => s.2.length) ([], l) (by simp) rfl ?_
    rintro ⟨pre, rest⟩ h1
    simp only at h1
    subst h1
    simp only [List.length_append, List.length_cons] at h
    rcases rest with _ | ⟨⟨y_Kind, y_Col, y_Op, ⟨y_V_Ty, y_V_N, y_V_S⟩, y_L⟩, rest⟩
    · unfold pl246_0
      repeat' (first
        | with_reducible (first | refine wp_seq ?_ | refine wp_blk ?_ | refine wp_skip ?_ | refine wp_exit ?_ | refine wp_ret ?_ | refine seqQ_norm ?_ | refine seqQ_ret ?_ | refine seqQ_exit ?_ | refine blkQ_norm ?_ | refine blkQ_ret ?_ | refine blkQ_exit ?_ | refine loopQ_norm ?_ | refine loopQ_exit ?_ | refine loopQ_ret ?_ | refine endQ_ret ?_ | refine endQ_norm ?_ | refine endE_ret ?_ | refine endE_norm ?_ | refine endI_ret ?_ | refine endI_norm ?_)
        | (with_reducible refine wp_regK fun K hK => ?_
           simp
           repeat' (with_reducible first | refine hK _ ?_ | (refine psel ?_ ?_ <;> (intro hc; (try rw [Decidable.not_not] at hc); first | (exfalso; omega) | (try simp [hc]))))
           all_goals (clear hK; clear K))
        | (with_reducible refine wp_condE ?_
           refine ⟨_, rfl, ?_, ?_⟩ <;> (intro hc; (try simp at hc); (all_goals first | (exfalso; omega) | skip))))
      all_goals simp [pf246]
    · unfold pl246_0
      simp only [List.length_cons] at h
      have hw : IntKind.wrap .i64 ((pre.length : Int) + 1) = (pre.length : Int) + 1 := wrap_i64 (by omega) (by omega)
      have hd := XPred.sms_mem hs ⟨y_Kind, y_Col, y_Op, ⟨y_V_Ty, y_V_N, y_V_S⟩, y_L⟩ (by simp)
      simp only [XPred.sm_eq, XVal.sm, and_assoc] at hd
      obtain ⟨hsm_y_V_S, hsm_y_L, hsms_y_L⟩ := hd
      have ih := IH ⟨y_Kind, y_Col, y_Op, ⟨y_V_Ty, y_V_N, y_V_S⟩, y_L⟩ (by simp) k0 (XPred.sms_mem hs ⟨y_Kind, y_Col, y_Op, ⟨y_V_Ty, y_V_N, y_V_S⟩, y_L⟩ (by simp))
      simp only at ih
      repeat' (first
        | with_reducible (first | refine wp_seq ?_ | refine wp_blk ?_ | refine wp_skip ?_ | refine wp_exit ?_ | refine wp_ret ?_ | refine seqQ_norm ?_ | refine seqQ_ret ?_ | refine seqQ_exit ?_ | refine blkQ_norm ?_ | refine blkQ_ret ?_ | refine blkQ_exit ?_ | refine loopQ_norm ?_ | refine loopQ_exit ?_ | refine loopQ_ret ?_ | refine endQ_ret ?_ | refine endQ_norm ?_ | refine endE_ret ?_ | refine endE_norm ?_ | refine endI_ret ?_ | refine endI_norm ?_)
        | (with_reducible refine wp_regK fun K hK => ?_
           simp[List.replicate_succ, hw, ih, hsm_y_V_S, hsm_y_L, hsms_y_L]
           repeat' (with_reducible first | refine hK _ ?_ | (refine psel ?_ ?_ <;> (intro hc; (try rw [Decidable.not_not] at hc); first | (exfalso; omega) | (try simp [hc, List.replicate_succ, hw, ih, hsm_y_V_S, hsm_y_L, hsms_y_L]))))
           all_goals (clear hK; clear K))
        | (with_reducible refine wp_condE ?_
           refine ⟨_, rfl, ?_, ?_⟩ <;> (intro hc; (try simp at hc); (all_goals first | (exfalso; omega) | skip))))
      all_goals exact ⟨(pre ++ [⟨y_Kind, y_Col, y_Op, ⟨y_V_Ty, y_V_N, y_V_S⟩, y_L⟩], rest), by simp, by simp, by simp⟩

theorem ToPred_of (x : XPred) (IH : ToPreds x.L) : ToPred x := by
  intro k0 hx
  obtain ⟨x_Kind, x_Col, x_Op, ⟨x_V_Ty, x_V_N, x_V_S⟩, x_L⟩ := x
  simp only [XPred.sm_eq, XVal.sm, and_assoc] at hx
  obtain ⟨hsm_x_V_S, hsm_x_L, hsms_x_L⟩ := hx
  have ih := IH k0 hsm_x_L hsms_x_L
  simp only at ih
  refine Gw_of (F := pf245) rfl rfl ?_
  show Wp _ pb245 _ _
  unfold pb245
  repeat' (first
    | with_reducible (first | refine wp_seq ?_ | refine wp_blk ?_ | refine wp_skip ?_ | refine wp_exit ?_ | refine wp_ret ?_ | refine seqQ_norm ?_ | refine seqQ_ret ?_ | refine seqQ_exit ?_ | refine blkQ_norm ?_ | refine blkQ_ret ?_ | refine blkQ_exit ?_ | refine loopQ_norm ?_ | refine loopQ_exit ?_ | refine loopQ_ret ?_ | refine endQ_ret ?_ | refine endQ_norm ?_ | refine endE_ret ?_ | refine endE_norm ?_ | refine endI_ret ?_ | refine endI_norm ?_)
    | (with_reducible refine wp_regK fun K hK => ?_
       simp[ih]
       repeat' (with_reducible first | refine hK _ ?_ | (refine psel ?_ ?_ <;> (intro hc; (try rw [Decidable.not_not] at hc); first | (exfalso; omega) | (try simp [hc, ih]))))
       all_goals (clear hK; clear K))
    | (with_reducible refine wp_condE ?_
       refine ⟨_, rfl, ?_, ?_⟩ <;> (intro hc; (try simp at hc); (all_goals first | (exfalso; omega) | skip))))
  all_goals simp [pf245]

theorem ToPred_all (x : XPred) : ToPred x :=
  ToPred_of x (ToPreds_of x.L fun y hy => ToPred_all y)
termination_by SizeOf.sizeOf x
decreasing_by
  have h1 := List.sizeOf_lt_of_mem hy
  have h2 : SizeOf.sizeOf x.L < SizeOf.sizeOf x := by cases x; simp; omega
  omega

@[simp] theorem t245 (k0 : Bool) (x_Kind : Int) (x_Col : Int) (x_Op : Int) (x_V_Ty : Int) (x_V_N : Int) (x_V_S : ByteArray) (x_L : List XPred) (hsm_x_L : x_L.length ≤ 1048576) (hsms_x_L : XPred.sms x_L) (hv : x_V_S.size ≤ 1048576) : Gw TT 245 [.st [.ro false (di x_Kind), .ro false (di x_Col), .ro false (di x_Op), .ro false (di x_V_Ty), .ro false (di x_V_N), .ro false (.str x_V_S), .ro k0 (.sl 7 (x_L.map XPred.e))]] = some (.st [.ro false (di x_Kind), .ro false (di x_Col), .ro false (di x_Op), .ro false (di x_V_Ty), .ro false (di x_V_N), .ro false (.str x_V_S), .own (.sl 7 (x_L.map XPred.e))], []) := ToPred_all ⟨x_Kind, x_Col, x_Op, ⟨x_V_Ty, x_V_N, x_V_S⟩, x_L⟩ k0 (by simp only [XPred.sm_eq, XVal.sm, and_assoc]; exact ⟨hv, hsm_x_L, hsms_x_L⟩)

@[simp] theorem t246 (k0 : Bool) (l : List XPred) (h : l.length ≤ 1048576) (hs : XPred.sms l) : Gw TT 246 [.one (.ro k0 (.sl 7 (l.map XPred.e)))] = some (.one (.own (.sl 7 (l.map XPred.e))), []) := ToPreds_of l (fun y _ => ToPred_all y) k0 h hs

def EqPred (x : XPred) : Prop := ∀ k0 k1 : Bool, x.sm → Gw TT 153 [.st [.ro false (di x.Kind), .ro false (di x.Col), .ro false (di x.Op), .ro false (di x.V.Ty), .ro false (di x.V.N), .ro false (.str x.V.S), .ro k0 (.sl 7 (x.L.map XPred.e))], .st [.ro false (di x.Kind), .ro false (di x.Col), .ro false (di x.Op), .ro false (di x.V.Ty), .ro false (di x.V.N), .ro false (.str x.V.S), .ro k1 (.sl 7 (x.L.map XPred.e))]] = some (vb true, [])
def EqPreds (l : List XPred) : Prop := ∀ k0 k1 : Bool, l.length ≤ 1048576 → XPred.sms l → Gw TT 154 [.one (.ro k0 (.sl 7 (l.map XPred.e))), .one (.ro k1 (.sl 7 (l.map XPred.e)))] = some (vb true, [])

theorem EqPreds_of (l : List XPred) (IH : ∀ y ∈ l, EqPred y) : EqPreds l := by
  intro k0 k1 h hs
  refine Gw_of (F := pf154) rfl rfl ?_
  show Wp _ pb154 _ _
  unfold pb154
  repeat' (first
    | with_reducible (first | refine wp_seq ?_ | refine wp_blk ?_ | refine wp_skip ?_ | refine wp_exit ?_ | refine wp_ret ?_ | refine seqQ_norm ?_ | refine seqQ_ret ?_ | refine seqQ_exit ?_ | refine blkQ_norm ?_ | refine blkQ_ret ?_ | refine blkQ_exit ?_ | refine loopQ_norm ?_ | refine loopQ_exit ?_ | refine loopQ_ret ?_ | refine endQ_ret ?_ | refine endQ_norm ?_ | refine endE_ret ?_ | refine endE_norm ?_ | refine endI_ret ?_ | refine endI_norm ?_)
    | (with_reducible refine wp_regK fun K hK => ?_
       simp
       repeat' (with_reducible first | refine hK _ ?_ | (refine psel ?_ ?_ <;> (intro hc; (try rw [Decidable.not_not] at hc); first | (exfalso; omega) | (try simp [hc]))))
       all_goals (clear hK; clear K))
    | (with_reducible refine wp_condE ?_
       refine ⟨_, rfl, ?_, ?_⟩ <;> (intro hc; (try simp at hc); (all_goals first | (exfalso; omega) | skip))))
  · refine wp_loopI (σ := List XPred × List XPred) (fun s => [(0, AV.v k0 (D.sl 7 (List.map XPred.e l)), none), (1, AV.v k1 (D.sl 7 (List.map XPred.e l)), none), (5, AV.v false (di (s.1.length : Nat)), none)]) (fun s => l = s.1 ++ s.2) (fun s => s.2.length) ([], l) (by simp) rfl ?_
    rintro ⟨pre, rest⟩ h1
    simp only at h1
    subst h1
    simp only [List.length_append, List.length_cons] at h
    rcases rest with _ | ⟨⟨y_Kind, y_Col, y_Op, ⟨y_V_Ty, y_V_N, y_V_S⟩, y_L⟩, rest⟩
    · unfold pl154_0
      repeat' (first
        | with_reducible (first | refine wp_seq ?_ | refine wp_blk ?_ | refine wp_skip ?_ | refine wp_exit ?_ | refine wp_ret ?_ | refine seqQ_norm ?_ | refine seqQ_ret ?_ | refine seqQ_exit ?_ | refine blkQ_norm ?_ | refine blkQ_ret ?_ | refine blkQ_exit ?_ | refine loopQ_norm ?_ | refine loopQ_exit ?_ | refine loopQ_ret ?_ | refine endQ_ret ?_ | refine endQ_norm ?_ | refine endE_ret ?_ | refine endE_norm ?_ | refine endI_ret ?_ | refine endI_norm ?_)
        | (with_reducible refine wp_regK fun K hK => ?_
           simp
           repeat' (with_reducible first | refine hK _ ?_ | (refine psel ?_ ?_ <;> (intro hc; (try rw [Decidable.not_not] at hc); first | (exfalso; omega) | (try simp [hc]))))
           all_goals (clear hK; clear K))
        | (with_reducible refine wp_condE ?_
           refine ⟨_, rfl, ?_, ?_⟩ <;> (intro hc; (try simp at hc); (all_goals first | (exfalso; omega) | skip))))
      all_goals simp [pf154]
    · unfold pl154_0
      simp only [List.length_cons] at h
      have hw : IntKind.wrap .i64 ((pre.length : Int) + 1) = (pre.length : Int) + 1 := wrap_i64 (by omega) (by omega)
      have hd := XPred.sms_mem hs ⟨y_Kind, y_Col, y_Op, ⟨y_V_Ty, y_V_N, y_V_S⟩, y_L⟩ (by simp)
      simp only [XPred.sm_eq, XVal.sm, and_assoc] at hd
      obtain ⟨hsm_y_V_S, hsm_y_L, hsms_y_L⟩ := hd
      have ih := IH ⟨y_Kind, y_Col, y_Op, ⟨y_V_Ty, y_V_N, y_V_S⟩, y_L⟩ (by simp) k0 k1 (XPred.sms_mem hs ⟨y_Kind, y_Col, y_Op, ⟨y_V_Ty, y_V_N, y_V_S⟩, y_L⟩ (by simp))
      simp only at ih
      repeat' (first
        | with_reducible (first | refine wp_seq ?_ | refine wp_blk ?_ | refine wp_skip ?_ | refine wp_exit ?_ | refine wp_ret ?_ | refine seqQ_norm ?_ | refine seqQ_ret ?_ | refine seqQ_exit ?_ | refine blkQ_norm ?_ | refine blkQ_ret ?_ | refine blkQ_exit ?_ | refine loopQ_norm ?_ | refine loopQ_exit ?_ | refine loopQ_ret ?_ | refine endQ_ret ?_ | refine endQ_norm ?_ | refine endE_ret ?_ | refine endE_norm ?_ | refine endI_ret ?_ | refine endI_norm ?_)
        | (with_reducible refine wp_regK fun K hK => ?_
           simp[hw, ih, hsm_y_V_S, hsm_y_L, hsms_y_L]
           repeat' (with_reducible first | refine hK _ ?_ | (refine psel ?_ ?_ <;> (intro hc; (try rw [Decidable.not_not] at hc); first | (exfalso; omega) | (try simp [hc, hw, ih, hsm_y_V_S, hsm_y_L, hsms_y_L]))))
           all_goals (clear hK; clear K))
        | (with_reducible refine wp_condE ?_
           refine ⟨_, rfl, ?_, ?_⟩ <;> (intro hc; (try simp at hc); (all_goals first | (exfalso; omega) | skip))))
      all_goals exact ⟨(pre ++ [⟨y_Kind, y_Col, y_Op, ⟨y_V_Ty, y_V_N, y_V_S⟩, y_L⟩], rest), by simp, by simp, by simp⟩

theorem EqPred_of (x : XPred) (IH : EqPreds x.L) : EqPred x := by
  intro k0 k1 hx
  obtain ⟨x_Kind, x_Col, x_Op, ⟨x_V_Ty, x_V_N, x_V_S⟩, x_L⟩ := x
  simp only [XPred.sm_eq, XVal.sm, and_assoc] at hx
  obtain ⟨hsm_x_V_S, hsm_x_L, hsms_x_L⟩ := hx
  have ih := IH k0 k1 hsm_x_L hsms_x_L
  simp only at ih
  refine Gw_of (F := pf153) rfl rfl ?_
  show Wp _ pb153 _ _
  unfold pb153
  repeat' (first
    | with_reducible (first | refine wp_seq ?_ | refine wp_blk ?_ | refine wp_skip ?_ | refine wp_exit ?_ | refine wp_ret ?_ | refine seqQ_norm ?_ | refine seqQ_ret ?_ | refine seqQ_exit ?_ | refine blkQ_norm ?_ | refine blkQ_ret ?_ | refine blkQ_exit ?_ | refine loopQ_norm ?_ | refine loopQ_exit ?_ | refine loopQ_ret ?_ | refine endQ_ret ?_ | refine endQ_norm ?_ | refine endE_ret ?_ | refine endE_norm ?_ | refine endI_ret ?_ | refine endI_norm ?_)
    | (with_reducible refine wp_regK fun K hK => ?_
       simp[ih]
       repeat' (with_reducible first | refine hK _ ?_ | (refine psel ?_ ?_ <;> (intro hc; (try rw [Decidable.not_not] at hc); first | (exfalso; omega) | (try simp [hc, ih]))))
       all_goals (clear hK; clear K))
    | (with_reducible refine wp_condE ?_
       refine ⟨_, rfl, ?_, ?_⟩ <;> (intro hc; (try simp at hc); (all_goals first | (exfalso; omega) | skip))))
  all_goals simp [pf153]

theorem EqPred_all (x : XPred) : EqPred x :=
  EqPred_of x (EqPreds_of x.L fun y hy => EqPred_all y)
termination_by SizeOf.sizeOf x
decreasing_by
  have h1 := List.sizeOf_lt_of_mem hy
  have h2 : SizeOf.sizeOf x.L < SizeOf.sizeOf x := by cases x; simp; omega
  omega

@[simp] theorem t153 (k0 k1 : Bool) (x_Kind : Int) (x_Col : Int) (x_Op : Int) (x_V_Ty : Int) (x_V_N : Int) (x_V_S : ByteArray) (x_L : List XPred) (hok_x_L : x_L.length ≤ 1048576) (hoks_x_L : XPred.sms x_L) (hv : x_V_S.size ≤ 1048576) : Gw TT 153 [.st [.ro false (di x_Kind), .ro false (di x_Col), .ro false (di x_Op), .ro false (di x_V_Ty), .ro false (di x_V_N), .ro false (.str x_V_S), .ro k0 (.sl 7 (x_L.map XPred.e))], .st [.ro false (di x_Kind), .ro false (di x_Col), .ro false (di x_Op), .ro false (di x_V_Ty), .ro false (di x_V_N), .ro false (.str x_V_S), .ro k1 (.sl 7 (x_L.map XPred.e))]] = some (vb true, []) := EqPred_all ⟨x_Kind, x_Col, x_Op, ⟨x_V_Ty, x_V_N, x_V_S⟩, x_L⟩ k0 k1 (by simp only [XPred.sm_eq, XVal.sm, and_assoc]; exact ⟨hv, hok_x_L, hoks_x_L⟩)

@[simp] theorem t154 (k0 k1 : Bool) (l : List XPred) (h : l.length ≤ 1048576) (hs : XPred.sms l) : Gw TT 154 [.one (.ro k0 (.sl 7 (l.map XPred.e))), .one (.ro k1 (.sl 7 (l.map XPred.e)))] = some (vb true, []) := EqPreds_of l (fun y _ => EqPred_all y) k0 k1 h hs

@[simp] theorem t247 (k0 : Bool) (x_Kind : Int) (x_P_Kind : Int) (x_P_Col : Int) (x_P_Op : Int) (x_P_V_Ty : Int) (x_P_V_N : Int) (x_P_V_S : ByteArray) (x_P_L : List XPred) (x_Col : Int) (x_Out : List Int) (hsm_x_P_V_S : x_P_V_S.size ≤ 1048576) (hsm_x_P_L : x_P_L.length ≤ 1048576) (hsms_x_P_L : XPred.sms x_P_L) (hsm_x_Out : x_Out.length ≤ 1048576) : Gw TT 247 [.st [.ro false (di x_Kind), .ro false (di x_P_Kind), .ro false (di x_P_Col), .ro false (di x_P_Op), .ro false (di x_P_V_Ty), .ro false (di x_P_V_N), .ro false (.str x_P_V_S), .ro k0 (.sl 7 (x_P_L.map XPred.e)), .ro false (di x_Col), .ro k0 (.sl 1 (x_Out.map ei))]] = some (.st [.ro false (di x_Kind), .ro false (di x_P_Kind), .ro false (di x_P_Col), .ro false (di x_P_Op), .ro false (di x_P_V_Ty), .ro false (di x_P_V_N), .ro false (.str x_P_V_S), .own (.sl 7 (x_P_L.map XPred.e)), .ro false (di x_Col), .own (.sl 1 (x_Out.map ei))], []) := by
  refine Gw_of (F := pf247) rfl rfl ?_
  show Wp _ pb247 _ _
  unfold pb247
  repeat' (first
    | with_reducible (first | refine wp_seq ?_ | refine wp_blk ?_ | refine wp_skip ?_ | refine wp_exit ?_ | refine wp_ret ?_ | refine seqQ_norm ?_ | refine seqQ_ret ?_ | refine seqQ_exit ?_ | refine blkQ_norm ?_ | refine blkQ_ret ?_ | refine blkQ_exit ?_ | refine loopQ_norm ?_ | refine loopQ_exit ?_ | refine loopQ_ret ?_ | refine endQ_ret ?_ | refine endQ_norm ?_ | refine endE_ret ?_ | refine endE_norm ?_ | refine endI_ret ?_ | refine endI_norm ?_)
    | (with_reducible refine wp_regK fun K hK => ?_
       simp[hsm_x_P_V_S, hsm_x_P_L, hsms_x_P_L, hsm_x_Out]
       repeat' (with_reducible first | refine hK _ ?_ | (refine psel ?_ ?_ <;> (intro hc; (try rw [Decidable.not_not] at hc); first | (exfalso; omega) | (try simp [hc, hsm_x_P_V_S, hsm_x_P_L, hsms_x_P_L, hsm_x_Out]))))
       all_goals (clear hK; clear K))
    | (with_reducible refine wp_condE ?_
       refine ⟨_, rfl, ?_, ?_⟩ <;> (intro hc; (try simp at hc); (all_goals first | (exfalso; omega) | skip))))
  all_goals simp [pf247]

@[simp] theorem t155 (k0 k1 : Bool) (x_Kind : Int) (x_P_Kind : Int) (x_P_Col : Int) (x_P_Op : Int) (x_P_V_Ty : Int) (x_P_V_N : Int) (x_P_V_S : ByteArray) (x_P_L : List XPred) (x_Col : Int) (x_Out : List Int) (hok_x_P_V_S : x_P_V_S.size ≤ 1048576) (hok_x_P_L : x_P_L.length ≤ 1048576) (hoks_x_P_L : XPred.sms x_P_L) (hok_x_Out : x_Out.length ≤ 1048576) : Gw TT 155 [.st [.ro false (di x_Kind), .ro false (di x_P_Kind), .ro false (di x_P_Col), .ro false (di x_P_Op), .ro false (di x_P_V_Ty), .ro false (di x_P_V_N), .ro false (.str x_P_V_S), .ro k0 (.sl 7 (x_P_L.map XPred.e)), .ro false (di x_Col), .ro k0 (.sl 1 (x_Out.map ei))], .st [.ro false (di x_Kind), .ro false (di x_P_Kind), .ro false (di x_P_Col), .ro false (di x_P_Op), .ro false (di x_P_V_Ty), .ro false (di x_P_V_N), .ro false (.str x_P_V_S), .ro k1 (.sl 7 (x_P_L.map XPred.e)), .ro false (di x_Col), .ro k1 (.sl 1 (x_Out.map ei))]] = some (vb true, []) := by
  refine Gw_of (F := pf155) rfl rfl ?_
  show Wp _ pb155 _ _
  unfold pb155
  repeat' (first
    | with_reducible (first | refine wp_seq ?_ | refine wp_blk ?_ | refine wp_skip ?_ | refine wp_exit ?_ | refine wp_ret ?_ | refine seqQ_norm ?_ | refine seqQ_ret ?_ | refine seqQ_exit ?_ | refine blkQ_norm ?_ | refine blkQ_ret ?_ | refine blkQ_exit ?_ | refine loopQ_norm ?_ | refine loopQ_exit ?_ | refine loopQ_ret ?_ | refine endQ_ret ?_ | refine endQ_norm ?_ | refine endE_ret ?_ | refine endE_norm ?_ | refine endI_ret ?_ | refine endI_norm ?_)
    | (with_reducible refine wp_regK fun K hK => ?_
       simp[hok_x_P_V_S, hok_x_P_L, hoks_x_P_L, hok_x_Out]
       repeat' (with_reducible first | refine hK _ ?_ | (refine psel ?_ ?_ <;> (intro hc; (try rw [Decidable.not_not] at hc); first | (exfalso; omega) | (try simp [hc, hok_x_P_V_S, hok_x_P_L, hoks_x_P_L, hok_x_Out]))))
       all_goals (clear hK; clear K))
    | (with_reducible refine wp_condE ?_
       refine ⟨_, rfl, ?_, ?_⟩ <;> (intro hc; (try simp at hc); (all_goals first | (exfalso; omega) | skip))))
  all_goals simp [pf155]

@[simp] theorem t250 (k0 : Bool) (x_Rows : List XRow) (x_N : Int) (x_Has : Bool) (x_V_Ty : Int) (x_V_N : Int) (x_V_S : ByteArray) (hsm_x_Rows : x_Rows.length ≤ 1048576) (hsms_x_Rows : XRow.sms x_Rows) : Gw TT 250 [.st [.ro k0 (.sl 2 (x_Rows.map XRow.e)), .ro false (di x_N), .ro false (.bool x_Has), .ro false (di x_V_Ty), .ro false (di x_V_N), .ro false (.str x_V_S)]] = some (.st [.own (.sl 2 (x_Rows.map XRow.e)), .ro false (di x_N), .ro false (.bool x_Has), .ro false (di x_V_Ty), .ro false (di x_V_N), .ro false (.str x_V_S)], []) := by
  refine Gw_of (F := pf250) rfl rfl ?_
  show Wp _ pb250 _ _
  unfold pb250
  repeat' (first
    | with_reducible (first | refine wp_seq ?_ | refine wp_blk ?_ | refine wp_skip ?_ | refine wp_exit ?_ | refine wp_ret ?_ | refine seqQ_norm ?_ | refine seqQ_ret ?_ | refine seqQ_exit ?_ | refine blkQ_norm ?_ | refine blkQ_ret ?_ | refine blkQ_exit ?_ | refine loopQ_norm ?_ | refine loopQ_exit ?_ | refine loopQ_ret ?_ | refine endQ_ret ?_ | refine endQ_norm ?_ | refine endE_ret ?_ | refine endE_norm ?_ | refine endI_ret ?_ | refine endI_norm ?_)
    | (with_reducible refine wp_regK fun K hK => ?_
       simp[hsm_x_Rows, hsms_x_Rows]
       repeat' (with_reducible first | refine hK _ ?_ | (refine psel ?_ ?_ <;> (intro hc; (try rw [Decidable.not_not] at hc); first | (exfalso; omega) | (try simp [hc, hsm_x_Rows, hsms_x_Rows]))))
       all_goals (clear hK; clear K))
    | (with_reducible refine wp_condE ?_
       refine ⟨_, rfl, ?_, ?_⟩ <;> (intro hc; (try simp at hc); (all_goals first | (exfalso; omega) | skip))))
  all_goals simp [pf250]

@[simp] theorem t158 (k0 k1 : Bool) (x_Rows : List XRow) (x_N : Int) (x_Has : Bool) (x_V_Ty : Int) (x_V_N : Int) (x_V_S : ByteArray) (hok_x_Rows : x_Rows.length ≤ 1048576) (hoks_x_Rows : XRow.sms x_Rows) : Gw TT 158 [.st [.ro k0 (.sl 2 (x_Rows.map XRow.e)), .ro false (di x_N), .ro false (.bool x_Has), .ro false (di x_V_Ty), .ro false (di x_V_N), .ro false (.str x_V_S)], .st [.ro k1 (.sl 2 (x_Rows.map XRow.e)), .ro false (di x_N), .ro false (.bool x_Has), .ro false (di x_V_Ty), .ro false (di x_V_N), .ro false (.str x_V_S)]] = some (vb true, []) := by
  refine Gw_of (F := pf158) rfl rfl ?_
  show Wp _ pb158 _ _
  unfold pb158
  repeat' (first
    | with_reducible (first | refine wp_seq ?_ | refine wp_blk ?_ | refine wp_skip ?_ | refine wp_exit ?_ | refine wp_ret ?_ | refine seqQ_norm ?_ | refine seqQ_ret ?_ | refine seqQ_exit ?_ | refine blkQ_norm ?_ | refine blkQ_ret ?_ | refine blkQ_exit ?_ | refine loopQ_norm ?_ | refine loopQ_exit ?_ | refine loopQ_ret ?_ | refine endQ_ret ?_ | refine endQ_norm ?_ | refine endE_ret ?_ | refine endE_norm ?_ | refine endI_ret ?_ | refine endI_norm ?_)
    | (with_reducible refine wp_regK fun K hK => ?_
       simp[hok_x_Rows, hoks_x_Rows]
       repeat' (with_reducible first | refine hK _ ?_ | (refine psel ?_ ?_ <;> (intro hc; (try rw [Decidable.not_not] at hc); first | (exfalso; omega) | (try simp [hc, hok_x_Rows, hoks_x_Rows]))))
       all_goals (clear hK; clear K))
    | (with_reducible refine wp_condE ?_
       refine ⟨_, rfl, ?_, ?_⟩ <;> (intro hc; (try simp at hc); (all_goals first | (exfalso; omega) | skip))))
  all_goals simp [pf158]

@[simp] theorem t241 (k0 : Bool) (x_Op : Int) (x_Task : Int) (x_R : List XVal) (x_Id : Int) (x_Q_Kind : Int) (x_Q_P_Kind : Int) (x_Q_P_Col : Int) (x_Q_P_Op : Int) (x_Q_P_V_Ty : Int) (x_Q_P_V_N : Int) (x_Q_P_V_S : ByteArray) (x_Q_P_L : List XPred) (x_Q_Col : Int) (x_Q_Out : List Int) (x_Res_Rows : List XRow) (x_Res_N : Int) (x_Res_Has : Bool) (x_Res_V_Ty : Int) (x_Res_V_N : Int) (x_Res_V_S : ByteArray) (x_Code : Int) (x_Stamp : Int) (x_Inv : Int) (x_Lin : Int) (x_Ret : Int) (hsm_x_R : x_R.length ≤ 1048576) (hsms_x_R : XVal.sms x_R) (hsm_x_Q_P_V_S : x_Q_P_V_S.size ≤ 1048576) (hsm_x_Q_P_L : x_Q_P_L.length ≤ 1048576) (hsms_x_Q_P_L : XPred.sms x_Q_P_L) (hsm_x_Q_Out : x_Q_Out.length ≤ 1048576) (hsm_x_Res_Rows : x_Res_Rows.length ≤ 1048576) (hsms_x_Res_Rows : XRow.sms x_Res_Rows) (hsm_x_Res_V_S : x_Res_V_S.size ≤ 1048576) : Gw TT 241 [.st [.ro false (di x_Op), .ro false (di x_Task), .ro k0 (.sl 3 (x_R.map XVal.e)), .ro false (di x_Id), .ro false (di x_Q_Kind), .ro false (di x_Q_P_Kind), .ro false (di x_Q_P_Col), .ro false (di x_Q_P_Op), .ro false (di x_Q_P_V_Ty), .ro false (di x_Q_P_V_N), .ro false (.str x_Q_P_V_S), .ro k0 (.sl 7 (x_Q_P_L.map XPred.e)), .ro false (di x_Q_Col), .ro k0 (.sl 1 (x_Q_Out.map ei)), .ro k0 (.sl 2 (x_Res_Rows.map XRow.e)), .ro false (di x_Res_N), .ro false (.bool x_Res_Has), .ro false (di x_Res_V_Ty), .ro false (di x_Res_V_N), .ro false (.str x_Res_V_S), .ro false (di x_Code), .ro false (di x_Stamp), .ro false (di x_Inv), .ro false (di x_Lin), .ro false (di x_Ret)]] = some (.st [.ro false (di x_Op), .ro false (di x_Task), .own (.sl 3 (x_R.map XVal.e)), .ro false (di x_Id), .ro false (di x_Q_Kind), .ro false (di x_Q_P_Kind), .ro false (di x_Q_P_Col), .ro false (di x_Q_P_Op), .ro false (di x_Q_P_V_Ty), .ro false (di x_Q_P_V_N), .ro false (.str x_Q_P_V_S), .own (.sl 7 (x_Q_P_L.map XPred.e)), .ro false (di x_Q_Col), .own (.sl 1 (x_Q_Out.map ei)), .own (.sl 2 (x_Res_Rows.map XRow.e)), .ro false (di x_Res_N), .ro false (.bool x_Res_Has), .ro false (di x_Res_V_Ty), .ro false (di x_Res_V_N), .ro false (.str x_Res_V_S), .ro false (di x_Code), .ro false (di x_Stamp), .ro false (di x_Inv), .ro false (di x_Lin), .ro false (di x_Ret)], []) := by
  refine Gw_of (F := pf241) rfl rfl ?_
  show Wp _ pb241 _ _
  unfold pb241
  repeat' (first
    | with_reducible (first | refine wp_seq ?_ | refine wp_blk ?_ | refine wp_skip ?_ | refine wp_exit ?_ | refine wp_ret ?_ | refine seqQ_norm ?_ | refine seqQ_ret ?_ | refine seqQ_exit ?_ | refine blkQ_norm ?_ | refine blkQ_ret ?_ | refine blkQ_exit ?_ | refine loopQ_norm ?_ | refine loopQ_exit ?_ | refine loopQ_ret ?_ | refine endQ_ret ?_ | refine endQ_norm ?_ | refine endE_ret ?_ | refine endE_norm ?_ | refine endI_ret ?_ | refine endI_norm ?_)
    | (with_reducible refine wp_regK fun K hK => ?_
       simp[hsm_x_R, hsms_x_R, hsm_x_Q_P_V_S, hsm_x_Q_P_L, hsms_x_Q_P_L, hsm_x_Q_Out, hsm_x_Res_Rows, hsms_x_Res_Rows, hsm_x_Res_V_S]
       repeat' (with_reducible first | refine hK _ ?_ | (refine psel ?_ ?_ <;> (intro hc; (try rw [Decidable.not_not] at hc); first | (exfalso; omega) | (try simp [hc, hsm_x_R, hsms_x_R, hsm_x_Q_P_V_S, hsm_x_Q_P_L, hsms_x_Q_P_L, hsm_x_Q_Out, hsm_x_Res_Rows, hsms_x_Res_Rows, hsm_x_Res_V_S]))))
       all_goals (clear hK; clear K))
    | (with_reducible refine wp_condE ?_
       refine ⟨_, rfl, ?_, ?_⟩ <;> (intro hc; (try simp at hc); (all_goals first | (exfalso; omega) | skip))))
  all_goals simp [pf241]

@[simp] theorem t242 (k0 : Bool) (l : List XDeed) (h : l.length ≤ 1048576) (hs : XDeed.sms l) : Gw TT 242 [.one (.ro k0 (.sl 25 (l.map XDeed.e)))] = some (.one (.own (.sl 25 (l.map XDeed.e))), []) := by
  refine Gw_of (F := pf242) rfl rfl ?_
  show Wp _ pb242 _ _
  unfold pb242
  repeat' (first
    | with_reducible (first | refine wp_seq ?_ | refine wp_blk ?_ | refine wp_skip ?_ | refine wp_exit ?_ | refine wp_ret ?_ | refine seqQ_norm ?_ | refine seqQ_ret ?_ | refine seqQ_exit ?_ | refine blkQ_norm ?_ | refine blkQ_ret ?_ | refine blkQ_exit ?_ | refine loopQ_norm ?_ | refine loopQ_exit ?_ | refine loopQ_ret ?_ | refine endQ_ret ?_ | refine endQ_norm ?_ | refine endE_ret ?_ | refine endE_norm ?_ | refine endI_ret ?_ | refine endI_norm ?_)
    | (with_reducible refine wp_regK fun K hK => ?_
       simp
       repeat' (with_reducible first | refine hK _ ?_ | (refine psel ?_ ?_ <;> (intro hc; (try rw [Decidable.not_not] at hc); first | (exfalso; omega) | (try simp [hc]))))
       all_goals (clear hK; clear K))
    | (with_reducible refine wp_condE ?_
       refine ⟨_, rfl, ?_, ?_⟩ <;> (intro hc; (try simp at hc); (all_goals first | (exfalso; omega) | skip))))
  · refine wp_loopI (σ := List XDeed × List XDeed) (fun s => [(0, AV.v k0 (D.sl 25 (List.map XDeed.e l)), none), (3, AV.pl 3 0 [], some (Rt.vir [C.own (D.sl 25 (s.1.map XDeed.e ++ List.replicate s.2.length [.int .i64 0, .int .i64 0, .sl 3 [], .int .i64 0, .int .i64 0, .int .i64 0, .int .i64 0, .int .i64 0, .int .i64 0, .int .i64 0, .str ⟨#[]⟩, .sl 7 [], .int .i64 0, .sl 1 [], .sl 2 [], .int .i64 0, .bool false, .int .i64 0, .int .i64 0, .str ⟨#[]⟩, .int .i64 0, .int .i64 0, .int .i64 0, .int .i64 0, .int .i64 0]))])), (4, AV.v false (di (s.1.length : Nat)), none)]) (fun s => l = s.1 ++ s.2) (fun s => s.2.length) ([], l) (by simp) rfl ?_
    rintro ⟨pre, rest⟩ h1
    simp only at h1
    subst h1
    simp only [List.length_append, List.length_cons] at h
    rcases rest with _ | ⟨⟨y_Op, y_Task, y_R, y_Id, ⟨y_Q_Kind, ⟨y_Q_P_Kind, y_Q_P_Col, y_Q_P_Op, ⟨y_Q_P_V_Ty, y_Q_P_V_N, y_Q_P_V_S⟩, y_Q_P_L⟩, y_Q_Col, y_Q_Out⟩, ⟨y_Res_Rows, y_Res_N, y_Res_Has, ⟨y_Res_V_Ty, y_Res_V_N, y_Res_V_S⟩⟩, y_Code, y_Stamp, y_Inv, y_Lin, y_Ret⟩, rest⟩
    · unfold pl242_0
      repeat' (first
        | with_reducible (first | refine wp_seq ?_ | refine wp_blk ?_ | refine wp_skip ?_ | refine wp_exit ?_ | refine wp_ret ?_ | refine seqQ_norm ?_ | refine seqQ_ret ?_ | refine seqQ_exit ?_ | refine blkQ_norm ?_ | refine blkQ_ret ?_ | refine blkQ_exit ?_ | refine loopQ_norm ?_ | refine loopQ_exit ?_ | refine loopQ_ret ?_ | refine endQ_ret ?_ | refine endQ_norm ?_ | refine endE_ret ?_ | refine endE_norm ?_ | refine endI_ret ?_ | refine endI_norm ?_)
        | (with_reducible refine wp_regK fun K hK => ?_
           simp
           repeat' (with_reducible first | refine hK _ ?_ | (refine psel ?_ ?_ <;> (intro hc; (try rw [Decidable.not_not] at hc); first | (exfalso; omega) | (try simp [hc]))))
           all_goals (clear hK; clear K))
        | (with_reducible refine wp_condE ?_
           refine ⟨_, rfl, ?_, ?_⟩ <;> (intro hc; (try simp at hc); (all_goals first | (exfalso; omega) | skip))))
      all_goals simp [pf242]
    · unfold pl242_0
      simp only [List.length_cons] at h
      have hw : IntKind.wrap .i64 ((pre.length : Int) + 1) = (pre.length : Int) + 1 := wrap_i64 (by omega) (by omega)
      have hd := hs ⟨y_Op, y_Task, y_R, y_Id, ⟨y_Q_Kind, ⟨y_Q_P_Kind, y_Q_P_Col, y_Q_P_Op, ⟨y_Q_P_V_Ty, y_Q_P_V_N, y_Q_P_V_S⟩, y_Q_P_L⟩, y_Q_Col, y_Q_Out⟩, ⟨y_Res_Rows, y_Res_N, y_Res_Has, ⟨y_Res_V_Ty, y_Res_V_N, y_Res_V_S⟩⟩, y_Code, y_Stamp, y_Inv, y_Lin, y_Ret⟩ (by simp)
      simp only [XDeed.sm, XQuery.sm, XPred.sm_eq, XVal.sm, XResult.sm, and_assoc] at hd
      obtain ⟨hsm_y_R, hsms_y_R, hsm_y_Q_P_V_S, hsm_y_Q_P_L, hsms_y_Q_P_L, hsm_y_Q_Out, hsm_y_Res_Rows, hsms_y_Res_Rows, hsm_y_Res_V_S⟩ := hd
      repeat' (first
        | with_reducible (first | refine wp_seq ?_ | refine wp_blk ?_ | refine wp_skip ?_ | refine wp_exit ?_ | refine wp_ret ?_ | refine seqQ_norm ?_ | refine seqQ_ret ?_ | refine seqQ_exit ?_ | refine blkQ_norm ?_ | refine blkQ_ret ?_ | refine blkQ_exit ?_ | refine loopQ_norm ?_ | refine loopQ_exit ?_ | refine loopQ_ret ?_ | refine endQ_ret ?_ | refine endQ_norm ?_ | refine endE_ret ?_ | refine endE_norm ?_ | refine endI_ret ?_ | refine endI_norm ?_)
        | (with_reducible refine wp_regK fun K hK => ?_
           simp[List.replicate_succ, hw, hsm_y_R, hsms_y_R, hsm_y_Q_P_V_S, hsm_y_Q_P_L, hsms_y_Q_P_L, hsm_y_Q_Out, hsm_y_Res_Rows, hsms_y_Res_Rows, hsm_y_Res_V_S]
           repeat' (with_reducible first | refine hK _ ?_ | (refine psel ?_ ?_ <;> (intro hc; (try rw [Decidable.not_not] at hc); first | (exfalso; omega) | (try simp [hc, List.replicate_succ, hw, hsm_y_R, hsms_y_R, hsm_y_Q_P_V_S, hsm_y_Q_P_L, hsms_y_Q_P_L, hsm_y_Q_Out, hsm_y_Res_Rows, hsms_y_Res_Rows, hsm_y_Res_V_S]))))
           all_goals (clear hK; clear K))
        | (with_reducible refine wp_condE ?_
           refine ⟨_, rfl, ?_, ?_⟩ <;> (intro hc; (try simp at hc); (all_goals first | (exfalso; omega) | skip))))
      all_goals exact ⟨(pre ++ [⟨y_Op, y_Task, y_R, y_Id, ⟨y_Q_Kind, ⟨y_Q_P_Kind, y_Q_P_Col, y_Q_P_Op, ⟨y_Q_P_V_Ty, y_Q_P_V_N, y_Q_P_V_S⟩, y_Q_P_L⟩, y_Q_Col, y_Q_Out⟩, ⟨y_Res_Rows, y_Res_N, y_Res_Has, ⟨y_Res_V_Ty, y_Res_V_N, y_Res_V_S⟩⟩, y_Code, y_Stamp, y_Inv, y_Lin, y_Ret⟩], rest), by simp, by simp, by simp⟩

@[simp] theorem t149 (k0 k1 : Bool) (x_Op : Int) (x_Task : Int) (x_R : List XVal) (x_Id : Int) (x_Q_Kind : Int) (x_Q_P_Kind : Int) (x_Q_P_Col : Int) (x_Q_P_Op : Int) (x_Q_P_V_Ty : Int) (x_Q_P_V_N : Int) (x_Q_P_V_S : ByteArray) (x_Q_P_L : List XPred) (x_Q_Col : Int) (x_Q_Out : List Int) (x_Res_Rows : List XRow) (x_Res_N : Int) (x_Res_Has : Bool) (x_Res_V_Ty : Int) (x_Res_V_N : Int) (x_Res_V_S : ByteArray) (x_Code : Int) (x_Stamp : Int) (x_Inv : Int) (x_Lin : Int) (x_Ret : Int) (hok_x_R : x_R.length ≤ 1048576) (hoks_x_R : XVal.sms x_R) (hok_x_Q_P_V_S : x_Q_P_V_S.size ≤ 1048576) (hok_x_Q_P_L : x_Q_P_L.length ≤ 1048576) (hoks_x_Q_P_L : XPred.sms x_Q_P_L) (hok_x_Q_Out : x_Q_Out.length ≤ 1048576) (hok_x_Res_Rows : x_Res_Rows.length ≤ 1048576) (hoks_x_Res_Rows : XRow.sms x_Res_Rows) (hok_x_Res_V_S : x_Res_V_S.size ≤ 1048576) : Gw TT 149 [.st [.ro false (di x_Op), .ro false (di x_Task), .ro k0 (.sl 3 (x_R.map XVal.e)), .ro false (di x_Id), .ro false (di x_Q_Kind), .ro false (di x_Q_P_Kind), .ro false (di x_Q_P_Col), .ro false (di x_Q_P_Op), .ro false (di x_Q_P_V_Ty), .ro false (di x_Q_P_V_N), .ro false (.str x_Q_P_V_S), .ro k0 (.sl 7 (x_Q_P_L.map XPred.e)), .ro false (di x_Q_Col), .ro k0 (.sl 1 (x_Q_Out.map ei)), .ro k0 (.sl 2 (x_Res_Rows.map XRow.e)), .ro false (di x_Res_N), .ro false (.bool x_Res_Has), .ro false (di x_Res_V_Ty), .ro false (di x_Res_V_N), .ro false (.str x_Res_V_S), .ro false (di x_Code), .ro false (di x_Stamp), .ro false (di x_Inv), .ro false (di x_Lin), .ro false (di x_Ret)], .st [.ro false (di x_Op), .ro false (di x_Task), .ro k1 (.sl 3 (x_R.map XVal.e)), .ro false (di x_Id), .ro false (di x_Q_Kind), .ro false (di x_Q_P_Kind), .ro false (di x_Q_P_Col), .ro false (di x_Q_P_Op), .ro false (di x_Q_P_V_Ty), .ro false (di x_Q_P_V_N), .ro false (.str x_Q_P_V_S), .ro k1 (.sl 7 (x_Q_P_L.map XPred.e)), .ro false (di x_Q_Col), .ro k1 (.sl 1 (x_Q_Out.map ei)), .ro k1 (.sl 2 (x_Res_Rows.map XRow.e)), .ro false (di x_Res_N), .ro false (.bool x_Res_Has), .ro false (di x_Res_V_Ty), .ro false (di x_Res_V_N), .ro false (.str x_Res_V_S), .ro false (di x_Code), .ro false (di x_Stamp), .ro false (di x_Inv), .ro false (di x_Lin), .ro false (di x_Ret)]] = some (vb true, []) := by
  refine Gw_of (F := pf149) rfl rfl ?_
  show Wp _ pb149 _ _
  unfold pb149
  repeat' (first
    | with_reducible (first | refine wp_seq ?_ | refine wp_blk ?_ | refine wp_skip ?_ | refine wp_exit ?_ | refine wp_ret ?_ | refine seqQ_norm ?_ | refine seqQ_ret ?_ | refine seqQ_exit ?_ | refine blkQ_norm ?_ | refine blkQ_ret ?_ | refine blkQ_exit ?_ | refine loopQ_norm ?_ | refine loopQ_exit ?_ | refine loopQ_ret ?_ | refine endQ_ret ?_ | refine endQ_norm ?_ | refine endE_ret ?_ | refine endE_norm ?_ | refine endI_ret ?_ | refine endI_norm ?_)
    | (with_reducible refine wp_regK fun K hK => ?_
       simp[hok_x_R, hoks_x_R, hok_x_Q_P_V_S, hok_x_Q_P_L, hoks_x_Q_P_L, hok_x_Q_Out, hok_x_Res_Rows, hoks_x_Res_Rows, hok_x_Res_V_S]
       repeat' (with_reducible first | refine hK _ ?_ | (refine psel ?_ ?_ <;> (intro hc; (try rw [Decidable.not_not] at hc); first | (exfalso; omega) | (try simp [hc, hok_x_R, hoks_x_R, hok_x_Q_P_V_S, hok_x_Q_P_L, hoks_x_Q_P_L, hok_x_Q_Out, hok_x_Res_Rows, hoks_x_Res_Rows, hok_x_Res_V_S]))))
       all_goals (clear hK; clear K))
    | (with_reducible refine wp_condE ?_
       refine ⟨_, rfl, ?_, ?_⟩ <;> (intro hc; (try simp at hc); (all_goals first | (exfalso; omega) | skip))))
  all_goals simp [pf149]

@[simp] theorem t150 (k0 k1 : Bool) (l : List XDeed) (h : l.length ≤ 1048576) (hs : XDeed.sms l) : Gw TT 150 [.one (.ro k0 (.sl 25 (l.map XDeed.e))), .one (.ro k1 (.sl 25 (l.map XDeed.e)))] = some (vb true, []) := by
  refine Gw_of (F := pf150) rfl rfl ?_
  show Wp _ pb150 _ _
  unfold pb150
  repeat' (first
    | with_reducible (first | refine wp_seq ?_ | refine wp_blk ?_ | refine wp_skip ?_ | refine wp_exit ?_ | refine wp_ret ?_ | refine seqQ_norm ?_ | refine seqQ_ret ?_ | refine seqQ_exit ?_ | refine blkQ_norm ?_ | refine blkQ_ret ?_ | refine blkQ_exit ?_ | refine loopQ_norm ?_ | refine loopQ_exit ?_ | refine loopQ_ret ?_ | refine endQ_ret ?_ | refine endQ_norm ?_ | refine endE_ret ?_ | refine endE_norm ?_ | refine endI_ret ?_ | refine endI_norm ?_)
    | (with_reducible refine wp_regK fun K hK => ?_
       simp
       repeat' (with_reducible first | refine hK _ ?_ | (refine psel ?_ ?_ <;> (intro hc; (try rw [Decidable.not_not] at hc); first | (exfalso; omega) | (try simp [hc]))))
       all_goals (clear hK; clear K))
    | (with_reducible refine wp_condE ?_
       refine ⟨_, rfl, ?_, ?_⟩ <;> (intro hc; (try simp at hc); (all_goals first | (exfalso; omega) | skip))))
  · refine wp_loopI (σ := List XDeed × List XDeed) (fun s => [(0, AV.v k0 (D.sl 25 (List.map XDeed.e l)), none), (1, AV.v k1 (D.sl 25 (List.map XDeed.e l)), none), (5, AV.v false (di (s.1.length : Nat)), none)]) (fun s => l = s.1 ++ s.2) (fun s => s.2.length) ([], l) (by simp) rfl ?_
    rintro ⟨pre, rest⟩ h1
    simp only at h1
    subst h1
    simp only [List.length_append, List.length_cons] at h
    rcases rest with _ | ⟨⟨y_Op, y_Task, y_R, y_Id, ⟨y_Q_Kind, ⟨y_Q_P_Kind, y_Q_P_Col, y_Q_P_Op, ⟨y_Q_P_V_Ty, y_Q_P_V_N, y_Q_P_V_S⟩, y_Q_P_L⟩, y_Q_Col, y_Q_Out⟩, ⟨y_Res_Rows, y_Res_N, y_Res_Has, ⟨y_Res_V_Ty, y_Res_V_N, y_Res_V_S⟩⟩, y_Code, y_Stamp, y_Inv, y_Lin, y_Ret⟩, rest⟩
    · unfold pl150_0
      repeat' (first
        | with_reducible (first | refine wp_seq ?_ | refine wp_blk ?_ | refine wp_skip ?_ | refine wp_exit ?_ | refine wp_ret ?_ | refine seqQ_norm ?_ | refine seqQ_ret ?_ | refine seqQ_exit ?_ | refine blkQ_norm ?_ | refine blkQ_ret ?_ | refine blkQ_exit ?_ | refine loopQ_norm ?_ | refine loopQ_exit ?_ | refine loopQ_ret ?_ | refine endQ_ret ?_ | refine endQ_norm ?_ | refine endE_ret ?_ | refine endE_norm ?_ | refine endI_ret ?_ | refine endI_norm ?_)
        | (with_reducible refine wp_regK fun K hK => ?_
           simp
           repeat' (with_reducible first | refine hK _ ?_ | (refine psel ?_ ?_ <;> (intro hc; (try rw [Decidable.not_not] at hc); first | (exfalso; omega) | (try simp [hc]))))
           all_goals (clear hK; clear K))
        | (with_reducible refine wp_condE ?_
           refine ⟨_, rfl, ?_, ?_⟩ <;> (intro hc; (try simp at hc); (all_goals first | (exfalso; omega) | skip))))
      all_goals simp [pf150]
    · unfold pl150_0
      simp only [List.length_cons] at h
      have hw : IntKind.wrap .i64 ((pre.length : Int) + 1) = (pre.length : Int) + 1 := wrap_i64 (by omega) (by omega)
      have hd := hs ⟨y_Op, y_Task, y_R, y_Id, ⟨y_Q_Kind, ⟨y_Q_P_Kind, y_Q_P_Col, y_Q_P_Op, ⟨y_Q_P_V_Ty, y_Q_P_V_N, y_Q_P_V_S⟩, y_Q_P_L⟩, y_Q_Col, y_Q_Out⟩, ⟨y_Res_Rows, y_Res_N, y_Res_Has, ⟨y_Res_V_Ty, y_Res_V_N, y_Res_V_S⟩⟩, y_Code, y_Stamp, y_Inv, y_Lin, y_Ret⟩ (by simp)
      simp only [XDeed.sm, XQuery.sm, XPred.sm_eq, XVal.sm, XResult.sm, and_assoc] at hd
      obtain ⟨hsm_y_R, hsms_y_R, hsm_y_Q_P_V_S, hsm_y_Q_P_L, hsms_y_Q_P_L, hsm_y_Q_Out, hsm_y_Res_Rows, hsms_y_Res_Rows, hsm_y_Res_V_S⟩ := hd
      repeat' (first
        | with_reducible (first | refine wp_seq ?_ | refine wp_blk ?_ | refine wp_skip ?_ | refine wp_exit ?_ | refine wp_ret ?_ | refine seqQ_norm ?_ | refine seqQ_ret ?_ | refine seqQ_exit ?_ | refine blkQ_norm ?_ | refine blkQ_ret ?_ | refine blkQ_exit ?_ | refine loopQ_norm ?_ | refine loopQ_exit ?_ | refine loopQ_ret ?_ | refine endQ_ret ?_ | refine endQ_norm ?_ | refine endE_ret ?_ | refine endE_norm ?_ | refine endI_ret ?_ | refine endI_norm ?_)
        | (with_reducible refine wp_regK fun K hK => ?_
           simp[hw, hsm_y_R, hsms_y_R, hsm_y_Q_P_V_S, hsm_y_Q_P_L, hsms_y_Q_P_L, hsm_y_Q_Out, hsm_y_Res_Rows, hsms_y_Res_Rows, hsm_y_Res_V_S]
           repeat' (with_reducible first | refine hK _ ?_ | (refine psel ?_ ?_ <;> (intro hc; (try rw [Decidable.not_not] at hc); first | (exfalso; omega) | (try simp [hc, hw, hsm_y_R, hsms_y_R, hsm_y_Q_P_V_S, hsm_y_Q_P_L, hsms_y_Q_P_L, hsm_y_Q_Out, hsm_y_Res_Rows, hsms_y_Res_Rows, hsm_y_Res_V_S]))))
           all_goals (clear hK; clear K))
        | (with_reducible refine wp_condE ?_
           refine ⟨_, rfl, ?_, ?_⟩ <;> (intro hc; (try simp at hc); (all_goals first | (exfalso; omega) | skip))))
      all_goals exact ⟨(pre ++ [⟨y_Op, y_Task, y_R, y_Id, ⟨y_Q_Kind, ⟨y_Q_P_Kind, y_Q_P_Col, y_Q_P_Op, ⟨y_Q_P_V_Ty, y_Q_P_V_N, y_Q_P_V_S⟩, y_Q_P_L⟩, y_Q_Col, y_Q_Out⟩, ⟨y_Res_Rows, y_Res_N, y_Res_Has, ⟨y_Res_V_Ty, y_Res_V_N, y_Res_V_S⟩⟩, y_Code, y_Stamp, y_Inv, y_Lin, y_Ret⟩], rest), by simp, by simp, by simp⟩

theorem t219 (k0 : Bool) (l : List Int) (left : Int) (h0 : 0 ≤ left) (h1 : left ≤ 1048576) (hl : l.length ≤ 9223372036854775807) :
    ∃ n, Gw TT 219 [.one (.ro k0 (.sl 1 (l.map ei))), vi left] = some (vi n, []) ∧ -1 ≤ n ∧ n ≤ left ∧ (0 ≤ n → l.length ≤ 1048576) := by
  refine Gw_ofI (F := pf219) rfl rfl ?_
  show Wp _ pb219 _ _
  unfold pb219
  have g : IntKind.wrap .i64 (left - (l.length : Int)) = left - (l.length : Int) := wrap_i64 (by omega) (by omega)
  repeat' (first
    | with_reducible (first | refine wp_seq ?_ | refine wp_blk ?_ | refine wp_skip ?_ | refine wp_exit ?_ | refine wp_ret ?_ | refine seqQ_norm ?_ | refine seqQ_ret ?_ | refine seqQ_exit ?_ | refine blkQ_norm ?_ | refine blkQ_ret ?_ | refine blkQ_exit ?_ | refine loopQ_norm ?_ | refine loopQ_exit ?_ | refine loopQ_ret ?_ | refine endQ_ret ?_ | refine endQ_norm ?_ | refine endE_ret ?_ | refine endE_norm ?_ | refine endI_ret ?_ | refine endI_norm ?_)
    | (with_reducible refine wp_regK fun K hK => ?_
       simp[g]
       repeat' (with_reducible first | refine hK _ ?_ | (refine psel ?_ ?_ <;> (intro hc; (try rw [Decidable.not_not] at hc); first | (exfalso; omega) | (try simp [hc, g]))))
       all_goals (clear hK; clear K))
    | (with_reducible refine wp_condE ?_
       refine ⟨_, rfl, ?_, ?_⟩ <;> (intro hc; (try simp at hc); (all_goals first | (exfalso; omega) | skip))))
  · exact ⟨-1, by simp [pf219], by omega, by omega, fun h => absurd h (by omega)⟩
  · exact ⟨left - (l.length : Int), by simp [pf219], by omega, by omega, fun _ => by omega⟩

theorem t231 (x_Ty : Int) (x_N : Int) (x_S : ByteArray) (left : Int) (h0 : 0 ≤ left) (h1 : left ≤ 1048576) (hok_x_S : x_S.size ≤ 9223372036854775807) :
    ∃ n, Gw TT 231 [.st [.ro false (di x_Ty), .ro false (di x_N), .ro false (.str x_S)], vi left] = some (vi n, []) ∧ -1 ≤ n ∧ n ≤ left ∧ (0 ≤ n → x_S.size ≤ 1048576) := by
  refine Gw_ofI (F := pf231) rfl rfl ?_
  show Wp _ pb231 _ _
  unfold pb231
  have g1 : IntKind.wrap .i64 (left - (x_S.size : Int)) = left - (x_S.size : Int) := wrap_i64 (by omega) (by omega)
  repeat' (first
    | with_reducible (first | refine wp_seq ?_ | refine wp_blk ?_ | refine wp_skip ?_ | refine wp_exit ?_ | refine wp_ret ?_ | refine seqQ_norm ?_ | refine seqQ_ret ?_ | refine seqQ_exit ?_ | refine blkQ_norm ?_ | refine blkQ_ret ?_ | refine blkQ_exit ?_ | refine loopQ_norm ?_ | refine loopQ_exit ?_ | refine loopQ_ret ?_ | refine endQ_ret ?_ | refine endQ_norm ?_ | refine endE_ret ?_ | refine endE_norm ?_ | refine endI_ret ?_ | refine endI_norm ?_)
    | (with_reducible refine wp_regK fun K hK => ?_
       simp[g1]
       repeat' (with_reducible first | refine hK _ ?_ | (refine psel ?_ ?_ <;> (intro hc; (try rw [Decidable.not_not] at hc); first | (exfalso; omega) | (try simp [hc, g1]))))
       all_goals (clear hK; clear K))
    | (with_reducible refine wp_condE ?_
       refine ⟨_, rfl, ?_, ?_⟩ <;> (intro hc; (try simp at hc); (all_goals first | (exfalso; omega) | skip))))
  · exact ⟨-1, by simp [pf231], by omega, by omega, fun h => absurd h (by omega)⟩
  · exact ⟨left - (x_S.size : Int), by simp [pf231], by omega, by omega, fun _ => (by omega)⟩

theorem t232 (k0 : Bool) (l : List XVal) (left : Int) (h0 : 0 ≤ left) (h1 : left ≤ 1048576) (hl : l.length ≤ 9223372036854775807) (hok : XVal.oks l) :
    ∃ n, Gw TT 232 [.one (.ro k0 (.sl 3 (l.map XVal.e))), vi left] = some (vi n, []) ∧ -1 ≤ n ∧ n ≤ left ∧ (0 ≤ n → l.length ≤ 1048576 ∧ XVal.sms l) := by
  refine Gw_ofI (F := pf232) rfl rfl ?_
  show Wp _ pb232 _ _
  unfold pb232
  have g : IntKind.wrap .i64 (left - (l.length : Int)) = left - (l.length : Int) := wrap_i64 (by omega) (by omega)
  repeat' (first
    | with_reducible (first | refine wp_seq ?_ | refine wp_blk ?_ | refine wp_skip ?_ | refine wp_exit ?_ | refine wp_ret ?_ | refine seqQ_norm ?_ | refine seqQ_ret ?_ | refine seqQ_exit ?_ | refine blkQ_norm ?_ | refine blkQ_ret ?_ | refine blkQ_exit ?_ | refine loopQ_norm ?_ | refine loopQ_exit ?_ | refine loopQ_ret ?_ | refine endQ_ret ?_ | refine endQ_norm ?_ | refine endE_ret ?_ | refine endE_norm ?_ | refine endI_ret ?_ | refine endI_norm ?_)
    | (with_reducible refine wp_regK fun K hK => ?_
       simp[g]
       repeat' (with_reducible first | refine hK _ ?_ | (refine psel ?_ ?_ <;> (intro hc; (try rw [Decidable.not_not] at hc); first | (exfalso; omega) | (try simp [hc, g]))))
       all_goals (clear hK; clear K))
    | (with_reducible refine wp_condE ?_
       refine ⟨_, rfl, ?_, ?_⟩ <;> (intro hc; (try simp at hc); (all_goals first | (exfalso; omega) | skip))))
  · exact ⟨-1, by simp [pf232], by omega, by omega, fun h => absurd h (by omega)⟩
  · refine wp_loopI (σ := List XVal × List XVal × Int) (fun s => [(0, AV.v k0 (D.sl 3 (List.map XVal.e l)), none), (1, AV.v false (di s.2.2), none), (5, AV.v false (di (s.1.length : Nat)), none)]) (fun s => l = s.1 ++ s.2.1 ∧ 0 ≤ s.2.2 ∧ s.2.2 ≤ left - (l.length : Int) ∧ XVal.sms s.1) (fun s => s.2.1.length) ([], l, left - (l.length : Int)) (by simp) ⟨rfl, by simp only; omega, by simp only; omega, fun y hy => by simp at hy⟩ ?_
    rintro ⟨pre, rest, lf⟩ ⟨h2, h3, h4, h5⟩
    simp only at h2 h3 h4 h5
    subst h2
    simp only [List.length_append, List.length_cons] at hl h4 g
    rcases rest with _ | ⟨⟨y_Ty, y_N, y_S⟩, rest⟩
    · unfold pl232_0
      repeat' (first
        | with_reducible (first | refine wp_seq ?_ | refine wp_blk ?_ | refine wp_skip ?_ | refine wp_exit ?_ | refine wp_ret ?_ | refine seqQ_norm ?_ | refine seqQ_ret ?_ | refine seqQ_exit ?_ | refine blkQ_norm ?_ | refine blkQ_ret ?_ | refine blkQ_exit ?_ | refine loopQ_norm ?_ | refine loopQ_exit ?_ | refine loopQ_ret ?_ | refine endQ_ret ?_ | refine endQ_norm ?_ | refine endE_ret ?_ | refine endE_norm ?_ | refine endI_ret ?_ | refine endI_norm ?_)
        | (with_reducible refine wp_regK fun K hK => ?_
           simp
           repeat' (with_reducible first | refine hK _ ?_ | (refine psel ?_ ?_ <;> (intro hc; (try rw [Decidable.not_not] at hc); first | (exfalso; omega) | (try simp [hc]))))
           all_goals (clear hK; clear K))
        | (with_reducible refine wp_condE ?_
           refine ⟨_, rfl, ?_, ?_⟩ <;> (intro hc; (try simp at hc); (all_goals first | (exfalso; omega) | skip))))
      simp only [List.length_nil] at h4
      all_goals exact ⟨lf, by simp [pf232], by omega, by omega, fun _ => ⟨by simp; omega, by simpa using h5⟩⟩
    · unfold pl232_0
      simp only [List.length_cons] at hl h4
      have hw : IntKind.wrap .i64 ((pre.length : Int) + 1) = (pre.length : Int) + 1 := wrap_i64 (by omega) (by omega)
      have hd := hok ⟨y_Ty, y_N, y_S⟩ (by simp)
      simp only [XVal.ok, and_assoc] at hd
      obtain ⟨hlo_y_Ty, hhi_y_Ty, hlo_y_N, hhi_y_N, hok_y_S⟩ := hd
      obtain ⟨n1, g1, a1, b1, s1⟩ := t231 y_Ty y_N y_S lf (by omega) (by omega) hok_y_S
      repeat' (first
        | with_reducible (first | refine wp_seq ?_ | refine wp_blk ?_ | refine wp_skip ?_ | refine wp_exit ?_ | refine wp_ret ?_ | refine seqQ_norm ?_ | refine seqQ_ret ?_ | refine seqQ_exit ?_ | refine blkQ_norm ?_ | refine blkQ_ret ?_ | refine blkQ_exit ?_ | refine loopQ_norm ?_ | refine loopQ_exit ?_ | refine loopQ_ret ?_ | refine endQ_ret ?_ | refine endQ_norm ?_ | refine endE_ret ?_ | refine endE_norm ?_ | refine endI_ret ?_ | refine endI_norm ?_)
        | (with_reducible refine wp_regK fun K hK => ?_
           simp[g1, hw]
           repeat' (with_reducible first | refine hK _ ?_ | (refine psel ?_ ?_ <;> (intro hc; (try rw [Decidable.not_not] at hc); first | (exfalso; omega) | (try simp [hc, g1, hw]))))
           all_goals (clear hK; clear K))
        | (with_reducible refine wp_condE ?_
           refine ⟨_, rfl, ?_, ?_⟩ <;> (intro hc; (try simp at hc); (all_goals first | (exfalso; omega) | skip))))
      · exact ⟨-1, by simp [pf232], by omega, by omega, fun h => absurd h (by omega)⟩
      · exact ⟨(pre ++ [⟨y_Ty, y_N, y_S⟩], rest, n1), by simp, ⟨by simp, by simp only; omega, by simp only [List.length_append, List.length_cons]; omega, fun y hy => by
          rcases List.mem_append.1 hy with hy | hy
          · exact h5 y hy
          · rw [List.mem_singleton.1 hy]
            simp only [XVal.sm, and_assoc]
            exact s1 (by omega)⟩, by simp⟩

theorem t225 (k0 : Bool) (x_Id : Int) (x_L : List XVal) (left : Int) (h0 : 0 ≤ left) (h1 : left ≤ 1048576) (hok_x_L : x_L.length ≤ 9223372036854775807) (hoks_x_L : XVal.oks x_L) :
    ∃ n, Gw TT 225 [.st [.ro false (di x_Id), .ro k0 (.sl 3 (x_L.map XVal.e))], vi left] = some (vi n, []) ∧ -1 ≤ n ∧ n ≤ left ∧ (0 ≤ n → x_L.length ≤ 1048576 ∧ XVal.sms x_L) := by
  refine Gw_ofI (F := pf225) rfl rfl ?_
  show Wp _ pb225 _ _
  unfold pb225
  obtain ⟨n1, g1, a1, b1, s1⟩ := t232 k0 x_L left (by omega) (by omega) hok_x_L hoks_x_L
  repeat' (first
    | with_reducible (first | refine wp_seq ?_ | refine wp_blk ?_ | refine wp_skip ?_ | refine wp_exit ?_ | refine wp_ret ?_ | refine seqQ_norm ?_ | refine seqQ_ret ?_ | refine seqQ_exit ?_ | refine blkQ_norm ?_ | refine blkQ_ret ?_ | refine blkQ_exit ?_ | refine loopQ_norm ?_ | refine loopQ_exit ?_ | refine loopQ_ret ?_ | refine endQ_ret ?_ | refine endQ_norm ?_ | refine endE_ret ?_ | refine endE_norm ?_ | refine endI_ret ?_ | refine endI_norm ?_)
    | (with_reducible refine wp_regK fun K hK => ?_
       simp[g1]
       repeat' (with_reducible first | refine hK _ ?_ | (refine psel ?_ ?_ <;> (intro hc; (try rw [Decidable.not_not] at hc); first | (exfalso; omega) | (try simp [hc, g1]))))
       all_goals (clear hK; clear K))
    | (with_reducible refine wp_condE ?_
       refine ⟨_, rfl, ?_, ?_⟩ <;> (intro hc; (try simp at hc); (all_goals first | (exfalso; omega) | skip))))
  · exact ⟨-1, by simp [pf225], by omega, by omega, fun h => absurd h (by omega)⟩
  · exact ⟨n1, by simp [pf225], by omega, by omega, fun _ => ⟨(s1 (by omega)).1, (s1 (by omega)).2⟩⟩

theorem t226 (k0 : Bool) (l : List XRow) (left : Int) (h0 : 0 ≤ left) (h1 : left ≤ 1048576) (hl : l.length ≤ 9223372036854775807) (hok : XRow.oks l) :
    ∃ n, Gw TT 226 [.one (.ro k0 (.sl 2 (l.map XRow.e))), vi left] = some (vi n, []) ∧ -1 ≤ n ∧ n ≤ left ∧ (0 ≤ n → l.length ≤ 1048576 ∧ XRow.sms l) := by
  refine Gw_ofI (F := pf226) rfl rfl ?_
  show Wp _ pb226 _ _
  unfold pb226
  have g : IntKind.wrap .i64 (left - (l.length : Int)) = left - (l.length : Int) := wrap_i64 (by omega) (by omega)
  repeat' (first
    | with_reducible (first | refine wp_seq ?_ | refine wp_blk ?_ | refine wp_skip ?_ | refine wp_exit ?_ | refine wp_ret ?_ | refine seqQ_norm ?_ | refine seqQ_ret ?_ | refine seqQ_exit ?_ | refine blkQ_norm ?_ | refine blkQ_ret ?_ | refine blkQ_exit ?_ | refine loopQ_norm ?_ | refine loopQ_exit ?_ | refine loopQ_ret ?_ | refine endQ_ret ?_ | refine endQ_norm ?_ | refine endE_ret ?_ | refine endE_norm ?_ | refine endI_ret ?_ | refine endI_norm ?_)
    | (with_reducible refine wp_regK fun K hK => ?_
       simp[g]
       repeat' (with_reducible first | refine hK _ ?_ | (refine psel ?_ ?_ <;> (intro hc; (try rw [Decidable.not_not] at hc); first | (exfalso; omega) | (try simp [hc, g]))))
       all_goals (clear hK; clear K))
    | (with_reducible refine wp_condE ?_
       refine ⟨_, rfl, ?_, ?_⟩ <;> (intro hc; (try simp at hc); (all_goals first | (exfalso; omega) | skip))))
  · exact ⟨-1, by simp [pf226], by omega, by omega, fun h => absurd h (by omega)⟩
  · refine wp_loopI (σ := List XRow × List XRow × Int) (fun s => [(0, AV.v k0 (D.sl 2 (List.map XRow.e l)), none), (1, AV.v false (di s.2.2), none), (5, AV.v false (di (s.1.length : Nat)), none)]) (fun s => l = s.1 ++ s.2.1 ∧ 0 ≤ s.2.2 ∧ s.2.2 ≤ left - (l.length : Int) ∧ XRow.sms s.1) (fun s => s.2.1.length) ([], l, left - (l.length : Int)) (by simp) ⟨rfl, by simp only; omega, by simp only; omega, fun y hy => by simp at hy⟩ ?_
    rintro ⟨pre, rest, lf⟩ ⟨h2, h3, h4, h5⟩
    simp only at h2 h3 h4 h5
    subst h2
    simp only [List.length_append, List.length_cons] at hl h4 g
    rcases rest with _ | ⟨⟨y_Id, y_L⟩, rest⟩
    · unfold pl226_0
      repeat' (first
        | with_reducible (first | refine wp_seq ?_ | refine wp_blk ?_ | refine wp_skip ?_ | refine wp_exit ?_ | refine wp_ret ?_ | refine seqQ_norm ?_ | refine seqQ_ret ?_ | refine seqQ_exit ?_ | refine blkQ_norm ?_ | refine blkQ_ret ?_ | refine blkQ_exit ?_ | refine loopQ_norm ?_ | refine loopQ_exit ?_ | refine loopQ_ret ?_ | refine endQ_ret ?_ | refine endQ_norm ?_ | refine endE_ret ?_ | refine endE_norm ?_ | refine endI_ret ?_ | refine endI_norm ?_)
        | (with_reducible refine wp_regK fun K hK => ?_
           simp
           repeat' (with_reducible first | refine hK _ ?_ | (refine psel ?_ ?_ <;> (intro hc; (try rw [Decidable.not_not] at hc); first | (exfalso; omega) | (try simp [hc]))))
           all_goals (clear hK; clear K))
        | (with_reducible refine wp_condE ?_
           refine ⟨_, rfl, ?_, ?_⟩ <;> (intro hc; (try simp at hc); (all_goals first | (exfalso; omega) | skip))))
      simp only [List.length_nil] at h4
      all_goals exact ⟨lf, by simp [pf226], by omega, by omega, fun _ => ⟨by simp; omega, by simpa using h5⟩⟩
    · unfold pl226_0
      simp only [List.length_cons] at hl h4
      have hw : IntKind.wrap .i64 ((pre.length : Int) + 1) = (pre.length : Int) + 1 := wrap_i64 (by omega) (by omega)
      have hd := hok ⟨y_Id, y_L⟩ (by simp)
      simp only [XRow.ok, and_assoc] at hd
      obtain ⟨hlo_y_Id, hhi_y_Id, hok_y_L, hoks_y_L⟩ := hd
      obtain ⟨n1, g1, a1, b1, s1⟩ := t225 k0 y_Id y_L lf (by omega) (by omega) hok_y_L hoks_y_L
      repeat' (first
        | with_reducible (first | refine wp_seq ?_ | refine wp_blk ?_ | refine wp_skip ?_ | refine wp_exit ?_ | refine wp_ret ?_ | refine seqQ_norm ?_ | refine seqQ_ret ?_ | refine seqQ_exit ?_ | refine blkQ_norm ?_ | refine blkQ_ret ?_ | refine blkQ_exit ?_ | refine loopQ_norm ?_ | refine loopQ_exit ?_ | refine loopQ_ret ?_ | refine endQ_ret ?_ | refine endQ_norm ?_ | refine endE_ret ?_ | refine endE_norm ?_ | refine endI_ret ?_ | refine endI_norm ?_)
        | (with_reducible refine wp_regK fun K hK => ?_
           simp[g1, hw]
           repeat' (with_reducible first | refine hK _ ?_ | (refine psel ?_ ?_ <;> (intro hc; (try rw [Decidable.not_not] at hc); first | (exfalso; omega) | (try simp [hc, g1, hw]))))
           all_goals (clear hK; clear K))
        | (with_reducible refine wp_condE ?_
           refine ⟨_, rfl, ?_, ?_⟩ <;> (intro hc; (try simp at hc); (all_goals first | (exfalso; omega) | skip))))
      · exact ⟨-1, by simp [pf226], by omega, by omega, fun h => absurd h (by omega)⟩
      · exact ⟨(pre ++ [⟨y_Id, y_L⟩], rest, n1), by simp, ⟨by simp, by simp only; omega, by simp only [List.length_append, List.length_cons]; omega, fun y hy => by
          rcases List.mem_append.1 hy with hy | hy
          · exact h5 y hy
          · rw [List.mem_singleton.1 hy]
            simp only [XRow.sm, and_assoc]
            exact s1 (by omega)⟩, by simp⟩

def SzPred (x : XPred) : Prop := ∀ (k0 : Bool) (left : Int), 0 ≤ left → left ≤ 1048576 → x.ok → ∃ n, Gw TT 220 [.st [.ro false (di x.Kind), .ro false (di x.Col), .ro false (di x.Op), .ro false (di x.V.Ty), .ro false (di x.V.N), .ro false (.str x.V.S), .ro k0 (.sl 7 (x.L.map XPred.e))], vi left] = some (vi n, []) ∧ -1 ≤ n ∧ n ≤ left ∧ (0 ≤ n → x.sm)
def SzPreds (l : List XPred) : Prop := ∀ (k0 : Bool) (left : Int), 0 ≤ left → left ≤ 1048576 → l.length ≤ 9223372036854775807 → XPred.oks l →
    ∃ n, Gw TT 221 [.one (.ro k0 (.sl 7 (l.map XPred.e))), vi left] = some (vi n, []) ∧ -1 ≤ n ∧ n ≤ left ∧ (0 ≤ n → l.length ≤ 1048576 ∧ XPred.sms l)

theorem SzPreds_of (l : List XPred) (IH : ∀ y ∈ l, SzPred y) : SzPreds l := by
  intro k0 left h0 h1 hl hok
  refine Gw_ofI (F := pf221) rfl rfl ?_
  show Wp _ pb221 _ _
  unfold pb221
  have g : IntKind.wrap .i64 (left - (l.length : Int)) = left - (l.length : Int) := wrap_i64 (by omega) (by omega)
  repeat' (first
    | with_reducible (first | refine wp_seq ?_ | refine wp_blk ?_ | refine wp_skip ?_ | refine wp_exit ?_ | refine wp_ret ?_ | refine seqQ_norm ?_ | refine seqQ_ret ?_ | refine seqQ_exit ?_ | refine blkQ_norm ?_ | refine blkQ_ret ?_ | refine blkQ_exit ?_ | refine loopQ_norm ?_ | refine loopQ_exit ?_ | refine loopQ_ret ?_ | refine endQ_ret ?_ | refine endQ_norm ?_ | refine endE_ret ?_ | refine endE_norm ?_ | refine endI_ret ?_ | refine endI_norm ?_)
    | (with_reducible refine wp_regK fun K hK => ?_
       simp[g]
       repeat' (with_reducible first | refine hK _ ?_ | (refine psel ?_ ?_ <;> (intro hc; (try rw [Decidable.not_not] at hc); first | (exfalso; omega) | (try simp [hc, g]))))
       all_goals (clear hK; clear K))
    | (with_reducible refine wp_condE ?_
       refine ⟨_, rfl, ?_, ?_⟩ <;> (intro hc; (try simp at hc); (all_goals first | (exfalso; omega) | skip))))
  · exact ⟨-1, by simp [pf221], by omega, by omega, fun h => absurd h (by omega)⟩
  · refine wp_loopI (σ := List XPred × List XPred × Int) (fun s => [(0, AV.v k0 (D.sl 7 (List.map XPred.e l)), none), (1, AV.v false (di s.2.2), none), (5, AV.v false (di (s.1.length : Nat)), none)]) (fun s => l = s.1 ++ s.2.1 ∧ 0 ≤ s.2.2 ∧ s.2.2 ≤ left - (l.length : Int) ∧ XPred.sms s.1) (fun s => s.2.1.length) ([], l, left - (l.length : Int)) (by simp) ⟨rfl, by simp only; omega, by simp only; omega, by simp [XPred.sms]⟩ ?_
    rintro ⟨pre, rest, lf⟩ ⟨h2, h3, h4, h5⟩
    simp only at h2 h3 h4 h5
    subst h2
    simp only [List.length_append, List.length_cons] at hl h4 g
    rcases rest with _ | ⟨⟨y_Kind, y_Col, y_Op, ⟨y_V_Ty, y_V_N, y_V_S⟩, y_L⟩, rest⟩
    · unfold pl221_0
      repeat' (first
        | with_reducible (first | refine wp_seq ?_ | refine wp_blk ?_ | refine wp_skip ?_ | refine wp_exit ?_ | refine wp_ret ?_ | refine seqQ_norm ?_ | refine seqQ_ret ?_ | refine seqQ_exit ?_ | refine blkQ_norm ?_ | refine blkQ_ret ?_ | refine blkQ_exit ?_ | refine loopQ_norm ?_ | refine loopQ_exit ?_ | refine loopQ_ret ?_ | refine endQ_ret ?_ | refine endQ_norm ?_ | refine endE_ret ?_ | refine endE_norm ?_ | refine endI_ret ?_ | refine endI_norm ?_)
        | (with_reducible refine wp_regK fun K hK => ?_
           simp
           repeat' (with_reducible first | refine hK _ ?_ | (refine psel ?_ ?_ <;> (intro hc; (try rw [Decidable.not_not] at hc); first | (exfalso; omega) | (try simp [hc]))))
           all_goals (clear hK; clear K))
        | (with_reducible refine wp_condE ?_
           refine ⟨_, rfl, ?_, ?_⟩ <;> (intro hc; (try simp at hc); (all_goals first | (exfalso; omega) | skip))))
      simp only [List.length_nil] at h4
      all_goals exact ⟨lf, by simp [pf221], by omega, by omega, fun _ => ⟨by simp; omega, by simpa using h5⟩⟩
    · unfold pl221_0
      simp only [List.length_cons] at hl h4
      have hw : IntKind.wrap .i64 ((pre.length : Int) + 1) = (pre.length : Int) + 1 := wrap_i64 (by omega) (by omega)
      obtain ⟨n1, g1, a1, b1, s1⟩ := IH ⟨y_Kind, y_Col, y_Op, ⟨y_V_Ty, y_V_N, y_V_S⟩, y_L⟩ (by simp) k0 lf (by omega) (by omega) (XPred.oks_mem hok ⟨y_Kind, y_Col, y_Op, ⟨y_V_Ty, y_V_N, y_V_S⟩, y_L⟩ (by simp))
      simp only at g1
      repeat' (first
        | with_reducible (first | refine wp_seq ?_ | refine wp_blk ?_ | refine wp_skip ?_ | refine wp_exit ?_ | refine wp_ret ?_ | refine seqQ_norm ?_ | refine seqQ_ret ?_ | refine seqQ_exit ?_ | refine blkQ_norm ?_ | refine blkQ_ret ?_ | refine blkQ_exit ?_ | refine loopQ_norm ?_ | refine loopQ_exit ?_ | refine loopQ_ret ?_ | refine endQ_ret ?_ | refine endQ_norm ?_ | refine endE_ret ?_ | refine endE_norm ?_ | refine endI_ret ?_ | refine endI_norm ?_)
        | (with_reducible refine wp_regK fun K hK => ?_
           simp[g1, hw]
           repeat' (with_reducible first | refine hK _ ?_ | (refine psel ?_ ?_ <;> (intro hc; (try rw [Decidable.not_not] at hc); first | (exfalso; omega) | (try simp [hc, g1, hw]))))
           all_goals (clear hK; clear K))
        | (with_reducible refine wp_condE ?_
           refine ⟨_, rfl, ?_, ?_⟩ <;> (intro hc; (try simp at hc); (all_goals first | (exfalso; omega) | skip))))
      · exact ⟨-1, by simp [pf221], by omega, by omega, fun h => absurd h (by omega)⟩
      · exact ⟨(pre ++ [⟨y_Kind, y_Col, y_Op, ⟨y_V_Ty, y_V_N, y_V_S⟩, y_L⟩], rest, n1), by simp, ⟨by simp, by simp only; omega, by simp only [List.length_append, List.length_cons]; omega, by
          rw [XPred.sms_eq]
          intro y hy
          rcases List.mem_append.1 hy with hy | hy
          · exact XPred.sms_mem h5 y hy
          · rw [List.mem_singleton.1 hy]
            exact s1 (by omega)⟩, by simp⟩

theorem SzPred_of (x : XPred) (IH : SzPreds x.L) : SzPred x := by
  intro k0 left h0 h1 hx
  obtain ⟨x_Kind, x_Col, x_Op, ⟨x_V_Ty, x_V_N, x_V_S⟩, x_L⟩ := x
  simp only [XPred.ok_eq, XVal.ok, and_assoc] at hx
  obtain ⟨hlo_x_Kind, hhi_x_Kind, hlo_x_Col, hhi_x_Col, hlo_x_Op, hhi_x_Op, hlo_x_V_Ty, hhi_x_V_Ty, hlo_x_V_N, hhi_x_V_N, hok_x_V_S, hok_x_L, hoks_x_L⟩ := hx
  refine Gw_ofI (F := pf220) rfl rfl ?_
  show Wp _ pb220 _ _
  unfold pb220
  obtain ⟨n1, g1, a1, b1, s1⟩ := t231 x_V_Ty x_V_N x_V_S left (by omega) (by omega) hok_x_V_S
  repeat' (first
    | with_reducible (first | refine wp_seq ?_ | refine wp_blk ?_ | refine wp_skip ?_ | refine wp_exit ?_ | refine wp_ret ?_ | refine seqQ_norm ?_ | refine seqQ_ret ?_ | refine seqQ_exit ?_ | refine blkQ_norm ?_ | refine blkQ_ret ?_ | refine blkQ_exit ?_ | refine loopQ_norm ?_ | refine loopQ_exit ?_ | refine loopQ_ret ?_ | refine endQ_ret ?_ | refine endQ_norm ?_ | refine endE_ret ?_ | refine endE_norm ?_ | refine endI_ret ?_ | refine endI_norm ?_)
    | (with_reducible refine wp_regK fun K hK => ?_
       simp[g1]
       repeat' (with_reducible first | refine hK _ ?_ | (refine psel ?_ ?_ <;> (intro hc; (try rw [Decidable.not_not] at hc); first | (exfalso; omega) | (try simp [hc, g1]))))
       all_goals (clear hK; clear K))
    | (with_reducible refine wp_condE ?_
       refine ⟨_, rfl, ?_, ?_⟩ <;> (intro hc; (try simp at hc); (all_goals first | (exfalso; omega) | skip))))
  · exact ⟨-1, by simp [pf220], by omega, by omega, fun h => absurd h (by omega)⟩
  obtain ⟨n2, g2, a2, b2, s2⟩ := IH k0 n1 (by omega) (by omega) hok_x_L hoks_x_L
  simp only at g2
  repeat' (first
    | with_reducible (first | refine wp_seq ?_ | refine wp_blk ?_ | refine wp_skip ?_ | refine wp_exit ?_ | refine wp_ret ?_ | refine seqQ_norm ?_ | refine seqQ_ret ?_ | refine seqQ_exit ?_ | refine blkQ_norm ?_ | refine blkQ_ret ?_ | refine blkQ_exit ?_ | refine loopQ_norm ?_ | refine loopQ_exit ?_ | refine loopQ_ret ?_ | refine endQ_ret ?_ | refine endQ_norm ?_ | refine endE_ret ?_ | refine endE_norm ?_ | refine endI_ret ?_ | refine endI_norm ?_)
    | (with_reducible refine wp_regK fun K hK => ?_
       simp[g2]
       repeat' (with_reducible first | refine hK _ ?_ | (refine psel ?_ ?_ <;> (intro hc; (try rw [Decidable.not_not] at hc); first | (exfalso; omega) | (try simp [hc, g2]))))
       all_goals (clear hK; clear K))
    | (with_reducible refine wp_condE ?_
       refine ⟨_, rfl, ?_, ?_⟩ <;> (intro hc; (try simp at hc); (all_goals first | (exfalso; omega) | skip))))
  · exact ⟨-1, by simp [pf220], by omega, by omega, fun h => absurd h (by omega)⟩
  · exact ⟨n2, by simp [pf220], by omega, by omega, fun _ => by simp only [XPred.sm_eq, XVal.sm, and_assoc]; exact ⟨(s1 (by omega)), (s2 (by omega)).1, (s2 (by omega)).2⟩⟩

theorem SzPred_all (x : XPred) : SzPred x :=
  SzPred_of x (SzPreds_of x.L fun y hy => SzPred_all y)
termination_by SizeOf.sizeOf x
decreasing_by
  have h1 := List.sizeOf_lt_of_mem hy
  have h2 : SizeOf.sizeOf x.L < SizeOf.sizeOf x := by cases x; simp; omega
  omega

theorem SzPred_raw (x : XPred) (k0 : Bool) (left : Int) (h0 : 0 ≤ left) (h1 : left ≤ 1048576) (hv : x.V.S.size ≤ 9223372036854775807) (hL : x.L.length ≤ 9223372036854775807) (hs : XPred.oks x.L) :
    ∃ n, Gw TT 220 [.st [.ro false (di x.Kind), .ro false (di x.Col), .ro false (di x.Op), .ro false (di x.V.Ty), .ro false (di x.V.N), .ro false (.str x.V.S), .ro k0 (.sl 7 (x.L.map XPred.e))], vi left] = some (vi n, []) ∧ -1 ≤ n ∧ n ≤ left ∧ (0 ≤ n → x.sm) := by
  have IH := SzPreds_of x.L fun y _ => SzPred_all y
  obtain ⟨x_Kind, x_Col, x_Op, ⟨x_V_Ty, x_V_N, x_V_S⟩, x_L⟩ := x
  have hok_x_V_S := hv
  have hok_x_L := hL
  have hoks_x_L := hs
  simp only at hok_x_V_S hok_x_L hoks_x_L
  refine Gw_ofI (F := pf220) rfl rfl ?_
  show Wp _ pb220 _ _
  unfold pb220
  obtain ⟨n1, g1, a1, b1, s1⟩ := t231 x_V_Ty x_V_N x_V_S left (by omega) (by omega) hok_x_V_S
  repeat' (first
    | with_reducible (first | refine wp_seq ?_ | refine wp_blk ?_ | refine wp_skip ?_ | refine wp_exit ?_ | refine wp_ret ?_ | refine seqQ_norm ?_ | refine seqQ_ret ?_ | refine seqQ_exit ?_ | refine blkQ_norm ?_ | refine blkQ_ret ?_ | refine blkQ_exit ?_ | refine loopQ_norm ?_ | refine loopQ_exit ?_ | refine loopQ_ret ?_ | refine endQ_ret ?_ | refine endQ_norm ?_ | refine endE_ret ?_ | refine endE_norm ?_ | refine endI_ret ?_ | refine endI_norm ?_)
    | (with_reducible refine wp_regK fun K hK => ?_
       simp[g1]
       repeat' (with_reducible first | refine hK _ ?_ | (refine psel ?_ ?_ <;> (intro hc; (try rw [Decidable.not_not] at hc); first | (exfalso; omega) | (try simp [hc, g1]))))
       all_goals (clear hK; clear K))
    | (with_reducible refine wp_condE ?_
       refine ⟨_, rfl, ?_, ?_⟩ <;> (intro hc; (try simp at hc); (all_goals first | (exfalso; omega) | skip))))
  · exact ⟨-1, by simp [pf220], by omega, by omega, fun h => absurd h (by omega)⟩
  obtain ⟨n2, g2, a2, b2, s2⟩ := IH k0 n1 (by omega) (by omega) hok_x_L hoks_x_L
  simp only at g2
  repeat' (first
    | with_reducible (first | refine wp_seq ?_ | refine wp_blk ?_ | refine wp_skip ?_ | refine wp_exit ?_ | refine wp_ret ?_ | refine seqQ_norm ?_ | refine seqQ_ret ?_ | refine seqQ_exit ?_ | refine blkQ_norm ?_ | refine blkQ_ret ?_ | refine blkQ_exit ?_ | refine loopQ_norm ?_ | refine loopQ_exit ?_ | refine loopQ_ret ?_ | refine endQ_ret ?_ | refine endQ_norm ?_ | refine endE_ret ?_ | refine endE_norm ?_ | refine endI_ret ?_ | refine endI_norm ?_)
    | (with_reducible refine wp_regK fun K hK => ?_
       simp[g2]
       repeat' (with_reducible first | refine hK _ ?_ | (refine psel ?_ ?_ <;> (intro hc; (try rw [Decidable.not_not] at hc); first | (exfalso; omega) | (try simp [hc, g2]))))
       all_goals (clear hK; clear K))
    | (with_reducible refine wp_condE ?_
       refine ⟨_, rfl, ?_, ?_⟩ <;> (intro hc; (try simp at hc); (all_goals first | (exfalso; omega) | skip))))
  · exact ⟨-1, by simp [pf220], by omega, by omega, fun h => absurd h (by omega)⟩
  · exact ⟨n2, by simp [pf220], by omega, by omega, fun _ => by simp only [XPred.sm_eq, XVal.sm, and_assoc]; exact ⟨(s1 (by omega)), (s2 (by omega)).1, (s2 (by omega)).2⟩⟩

theorem t220 (k0 : Bool) (x_Kind : Int) (x_Col : Int) (x_Op : Int) (x_V_Ty : Int) (x_V_N : Int) (x_V_S : ByteArray) (x_L : List XPred) (left : Int) (h0 : 0 ≤ left) (h1 : left ≤ 1048576) (hok_x_V_S : x_V_S.size ≤ 9223372036854775807) (hok_x_L : x_L.length ≤ 9223372036854775807) (hoks_x_L : XPred.oks x_L) :
    ∃ n, Gw TT 220 [.st [.ro false (di x_Kind), .ro false (di x_Col), .ro false (di x_Op), .ro false (di x_V_Ty), .ro false (di x_V_N), .ro false (.str x_V_S), .ro k0 (.sl 7 (x_L.map XPred.e))], vi left] = some (vi n, []) ∧ -1 ≤ n ∧ n ≤ left ∧ (0 ≤ n → x_V_S.size ≤ 1048576 ∧ x_L.length ≤ 1048576 ∧ XPred.sms x_L) := by
  obtain ⟨n, g, a, b, s⟩ := SzPred_raw ⟨x_Kind, x_Col, x_Op, ⟨x_V_Ty, x_V_N, x_V_S⟩, x_L⟩ k0 left h0 h1 hok_x_V_S hok_x_L hoks_x_L
  exact ⟨n, g, a, b, fun h => by have := s h; simp only [XPred.sm_eq, XVal.sm, and_assoc] at this; exact this⟩

theorem t221 (k0 : Bool) (l : List XPred) (left : Int) (h0 : 0 ≤ left) (h1 : left ≤ 1048576) (hl : l.length ≤ 9223372036854775807) (hok : XPred.oks l) :
    ∃ n, Gw TT 221 [.one (.ro k0 (.sl 7 (l.map XPred.e))), vi left] = some (vi n, []) ∧ -1 ≤ n ∧ n ≤ left ∧ (0 ≤ n → l.length ≤ 1048576 ∧ XPred.sms l) := SzPreds_of l (fun y _ => SzPred_all y) k0 left h0 h1 hl hok

theorem t222 (k0 : Bool) (x_Kind : Int) (x_P_Kind : Int) (x_P_Col : Int) (x_P_Op : Int) (x_P_V_Ty : Int) (x_P_V_N : Int) (x_P_V_S : ByteArray) (x_P_L : List XPred) (x_Col : Int) (x_Out : List Int) (left : Int) (h0 : 0 ≤ left) (h1 : left ≤ 1048576) (hok_x_P_V_S : x_P_V_S.size ≤ 9223372036854775807) (hok_x_P_L : x_P_L.length ≤ 9223372036854775807) (hoks_x_P_L : XPred.oks x_P_L) (hok_x_Out : x_Out.length ≤ 9223372036854775807) :
    ∃ n, Gw TT 222 [.st [.ro false (di x_Kind), .ro false (di x_P_Kind), .ro false (di x_P_Col), .ro false (di x_P_Op), .ro false (di x_P_V_Ty), .ro false (di x_P_V_N), .ro false (.str x_P_V_S), .ro k0 (.sl 7 (x_P_L.map XPred.e)), .ro false (di x_Col), .ro k0 (.sl 1 (x_Out.map ei))], vi left] = some (vi n, []) ∧ -1 ≤ n ∧ n ≤ left ∧ (0 ≤ n → x_P_V_S.size ≤ 1048576 ∧ x_P_L.length ≤ 1048576 ∧ XPred.sms x_P_L ∧ x_Out.length ≤ 1048576) := by
  refine Gw_ofI (F := pf222) rfl rfl ?_
  show Wp _ pb222 _ _
  unfold pb222
  obtain ⟨n1, g1, a1, b1, s1⟩ := t220 k0 x_P_Kind x_P_Col x_P_Op x_P_V_Ty x_P_V_N x_P_V_S x_P_L left (by omega) (by omega) hok_x_P_V_S hok_x_P_L hoks_x_P_L
  repeat' (first
    | with_reducible (first | refine wp_seq ?_ | refine wp_blk ?_ | refine wp_skip ?_ | refine wp_exit ?_ | refine wp_ret ?_ | refine seqQ_norm ?_ | refine seqQ_ret ?_ | refine seqQ_exit ?_ | refine blkQ_norm ?_ | refine blkQ_ret ?_ | refine blkQ_exit ?_ | refine loopQ_norm ?_ | refine loopQ_exit ?_ | refine loopQ_ret ?_ | refine endQ_ret ?_ | refine endQ_norm ?_ | refine endE_ret ?_ | refine endE_norm ?_ | refine endI_ret ?_ | refine endI_norm ?_)
    | (with_reducible refine wp_regK fun K hK => ?_
       simp[g1]
       repeat' (with_reducible first | refine hK _ ?_ | (refine psel ?_ ?_ <;> (intro hc; (try rw [Decidable.not_not] at hc); first | (exfalso; omega) | (try simp [hc, g1]))))
       all_goals (clear hK; clear K))
    | (with_reducible refine wp_condE ?_
       refine ⟨_, rfl, ?_, ?_⟩ <;> (intro hc; (try simp at hc); (all_goals first | (exfalso; omega) | skip))))
  · exact ⟨-1, by simp [pf222], by omega, by omega, fun h => absurd h (by omega)⟩
  obtain ⟨n2, g2, a2, b2, s2⟩ := t219 k0 x_Out n1 (by omega) (by omega) hok_x_Out
  repeat' (first
    | with_reducible (first | refine wp_seq ?_ | refine wp_blk ?_ | refine wp_skip ?_ | refine wp_exit ?_ | refine wp_ret ?_ | refine seqQ_norm ?_ | refine seqQ_ret ?_ | refine seqQ_exit ?_ | refine blkQ_norm ?_ | refine blkQ_ret ?_ | refine blkQ_exit ?_ | refine loopQ_norm ?_ | refine loopQ_exit ?_ | refine loopQ_ret ?_ | refine endQ_ret ?_ | refine endQ_norm ?_ | refine endE_ret ?_ | refine endE_norm ?_ | refine endI_ret ?_ | refine endI_norm ?_)
    | (with_reducible refine wp_regK fun K hK => ?_
       simp[g2]
       repeat' (with_reducible first | refine hK _ ?_ | (refine psel ?_ ?_ <;> (intro hc; (try rw [Decidable.not_not] at hc); first | (exfalso; omega) | (try simp [hc, g2]))))
       all_goals (clear hK; clear K))
    | (with_reducible refine wp_condE ?_
       refine ⟨_, rfl, ?_, ?_⟩ <;> (intro hc; (try simp at hc); (all_goals first | (exfalso; omega) | skip))))
  · exact ⟨-1, by simp [pf222], by omega, by omega, fun h => absurd h (by omega)⟩
  · exact ⟨n2, by simp [pf222], by omega, by omega, fun _ => ⟨(s1 (by omega)).1, (s1 (by omega)).2.1, (s1 (by omega)).2.2, (s2 (by omega))⟩⟩

theorem t224 (k0 : Bool) (x_Rows : List XRow) (x_N : Int) (x_Has : Bool) (x_V_Ty : Int) (x_V_N : Int) (x_V_S : ByteArray) (left : Int) (h0 : 0 ≤ left) (h1 : left ≤ 1048576) (hok_x_Rows : x_Rows.length ≤ 9223372036854775807) (hoks_x_Rows : XRow.oks x_Rows) (hok_x_V_S : x_V_S.size ≤ 9223372036854775807) :
    ∃ n, Gw TT 224 [.st [.ro k0 (.sl 2 (x_Rows.map XRow.e)), .ro false (di x_N), .ro false (.bool x_Has), .ro false (di x_V_Ty), .ro false (di x_V_N), .ro false (.str x_V_S)], vi left] = some (vi n, []) ∧ -1 ≤ n ∧ n ≤ left ∧ (0 ≤ n → x_Rows.length ≤ 1048576 ∧ XRow.sms x_Rows ∧ x_V_S.size ≤ 1048576) := by
  refine Gw_ofI (F := pf224) rfl rfl ?_
  show Wp _ pb224 _ _
  unfold pb224
  obtain ⟨n1, g1, a1, b1, s1⟩ := t226 k0 x_Rows left (by omega) (by omega) hok_x_Rows hoks_x_Rows
  repeat' (first
    | with_reducible (first | refine wp_seq ?_ | refine wp_blk ?_ | refine wp_skip ?_ | refine wp_exit ?_ | refine wp_ret ?_ | refine seqQ_norm ?_ | refine seqQ_ret ?_ | refine seqQ_exit ?_ | refine blkQ_norm ?_ | refine blkQ_ret ?_ | refine blkQ_exit ?_ | refine loopQ_norm ?_ | refine loopQ_exit ?_ | refine loopQ_ret ?_ | refine endQ_ret ?_ | refine endQ_norm ?_ | refine endE_ret ?_ | refine endE_norm ?_ | refine endI_ret ?_ | refine endI_norm ?_)
    | (with_reducible refine wp_regK fun K hK => ?_
       simp[g1]
       repeat' (with_reducible first | refine hK _ ?_ | (refine psel ?_ ?_ <;> (intro hc; (try rw [Decidable.not_not] at hc); first | (exfalso; omega) | (try simp [hc, g1]))))
       all_goals (clear hK; clear K))
    | (with_reducible refine wp_condE ?_
       refine ⟨_, rfl, ?_, ?_⟩ <;> (intro hc; (try simp at hc); (all_goals first | (exfalso; omega) | skip))))
  · exact ⟨-1, by simp [pf224], by omega, by omega, fun h => absurd h (by omega)⟩
  obtain ⟨n2, g2, a2, b2, s2⟩ := t231 x_V_Ty x_V_N x_V_S n1 (by omega) (by omega) hok_x_V_S
  repeat' (first
    | with_reducible (first | refine wp_seq ?_ | refine wp_blk ?_ | refine wp_skip ?_ | refine wp_exit ?_ | refine wp_ret ?_ | refine seqQ_norm ?_ | refine seqQ_ret ?_ | refine seqQ_exit ?_ | refine blkQ_norm ?_ | refine blkQ_ret ?_ | refine blkQ_exit ?_ | refine loopQ_norm ?_ | refine loopQ_exit ?_ | refine loopQ_ret ?_ | refine endQ_ret ?_ | refine endQ_norm ?_ | refine endE_ret ?_ | refine endE_norm ?_ | refine endI_ret ?_ | refine endI_norm ?_)
    | (with_reducible refine wp_regK fun K hK => ?_
       simp[g2]
       repeat' (with_reducible first | refine hK _ ?_ | (refine psel ?_ ?_ <;> (intro hc; (try rw [Decidable.not_not] at hc); first | (exfalso; omega) | (try simp [hc, g2]))))
       all_goals (clear hK; clear K))
    | (with_reducible refine wp_condE ?_
       refine ⟨_, rfl, ?_, ?_⟩ <;> (intro hc; (try simp at hc); (all_goals first | (exfalso; omega) | skip))))
  · exact ⟨-1, by simp [pf224], by omega, by omega, fun h => absurd h (by omega)⟩
  · exact ⟨n2, by simp [pf224], by omega, by omega, fun _ => ⟨(s1 (by omega)).1, (s1 (by omega)).2, (s2 (by omega))⟩⟩

theorem t216 (k0 : Bool) (x_Op : Int) (x_Task : Int) (x_R : List XVal) (x_Id : Int) (x_Q_Kind : Int) (x_Q_P_Kind : Int) (x_Q_P_Col : Int) (x_Q_P_Op : Int) (x_Q_P_V_Ty : Int) (x_Q_P_V_N : Int) (x_Q_P_V_S : ByteArray) (x_Q_P_L : List XPred) (x_Q_Col : Int) (x_Q_Out : List Int) (x_Res_Rows : List XRow) (x_Res_N : Int) (x_Res_Has : Bool) (x_Res_V_Ty : Int) (x_Res_V_N : Int) (x_Res_V_S : ByteArray) (x_Code : Int) (x_Stamp : Int) (x_Inv : Int) (x_Lin : Int) (x_Ret : Int) (left : Int) (h0 : 0 ≤ left) (h1 : left ≤ 1048576) (hok_x_R : x_R.length ≤ 9223372036854775807) (hoks_x_R : XVal.oks x_R) (hok_x_Q_P_V_S : x_Q_P_V_S.size ≤ 9223372036854775807) (hok_x_Q_P_L : x_Q_P_L.length ≤ 9223372036854775807) (hoks_x_Q_P_L : XPred.oks x_Q_P_L) (hok_x_Q_Out : x_Q_Out.length ≤ 9223372036854775807) (hok_x_Res_Rows : x_Res_Rows.length ≤ 9223372036854775807) (hoks_x_Res_Rows : XRow.oks x_Res_Rows) (hok_x_Res_V_S : x_Res_V_S.size ≤ 9223372036854775807) :
    ∃ n, Gw TT 216 [.st [.ro false (di x_Op), .ro false (di x_Task), .ro k0 (.sl 3 (x_R.map XVal.e)), .ro false (di x_Id), .ro false (di x_Q_Kind), .ro false (di x_Q_P_Kind), .ro false (di x_Q_P_Col), .ro false (di x_Q_P_Op), .ro false (di x_Q_P_V_Ty), .ro false (di x_Q_P_V_N), .ro false (.str x_Q_P_V_S), .ro k0 (.sl 7 (x_Q_P_L.map XPred.e)), .ro false (di x_Q_Col), .ro k0 (.sl 1 (x_Q_Out.map ei)), .ro k0 (.sl 2 (x_Res_Rows.map XRow.e)), .ro false (di x_Res_N), .ro false (.bool x_Res_Has), .ro false (di x_Res_V_Ty), .ro false (di x_Res_V_N), .ro false (.str x_Res_V_S), .ro false (di x_Code), .ro false (di x_Stamp), .ro false (di x_Inv), .ro false (di x_Lin), .ro false (di x_Ret)], vi left] = some (vi n, []) ∧ -1 ≤ n ∧ n ≤ left ∧ (0 ≤ n → x_R.length ≤ 1048576 ∧ XVal.sms x_R ∧ x_Q_P_V_S.size ≤ 1048576 ∧ x_Q_P_L.length ≤ 1048576 ∧ XPred.sms x_Q_P_L ∧ x_Q_Out.length ≤ 1048576 ∧ x_Res_Rows.length ≤ 1048576 ∧ XRow.sms x_Res_Rows ∧ x_Res_V_S.size ≤ 1048576) := by
  refine Gw_ofI (F := pf216) rfl rfl ?_
  show Wp _ pb216 _ _
  unfold pb216
  obtain ⟨n1, g1, a1, b1, s1⟩ := t232 k0 x_R left (by omega) (by omega) hok_x_R hoks_x_R
  repeat' (first
    | with_reducible (first | refine wp_seq ?_ | refine wp_blk ?_ | refine wp_skip ?_ | refine wp_exit ?_ | refine wp_ret ?_ | refine seqQ_norm ?_ | refine seqQ_ret ?_ | refine seqQ_exit ?_ | refine blkQ_norm ?_ | refine blkQ_ret ?_ | refine blkQ_exit ?_ | refine loopQ_norm ?_ | refine loopQ_exit ?_ | refine loopQ_ret ?_ | refine endQ_ret ?_ | refine endQ_norm ?_ | refine endE_ret ?_ | refine endE_norm ?_ | refine endI_ret ?_ | refine endI_norm ?_)
    | (with_reducible refine wp_regK fun K hK => ?_
       simp[g1]
       repeat' (with_reducible first | refine hK _ ?_ | (refine psel ?_ ?_ <;> (intro hc; (try rw [Decidable.not_not] at hc); first | (exfalso; omega) | (try simp [hc, g1]))))
       all_goals (clear hK; clear K))
    | (with_reducible refine wp_condE ?_
       refine ⟨_, rfl, ?_, ?_⟩ <;> (intro hc; (try simp at hc); (all_goals first | (exfalso; omega) | skip))))
  · exact ⟨-1, by simp [pf216], by omega, by omega, fun h => absurd h (by omega)⟩
  obtain ⟨n2, g2, a2, b2, s2⟩ := t222 k0 x_Q_Kind x_Q_P_Kind x_Q_P_Col x_Q_P_Op x_Q_P_V_Ty x_Q_P_V_N x_Q_P_V_S x_Q_P_L x_Q_Col x_Q_Out n1 (by omega) (by omega) hok_x_Q_P_V_S hok_x_Q_P_L hoks_x_Q_P_L hok_x_Q_Out
  repeat' (first
    | with_reducible (first | refine wp_seq ?_ | refine wp_blk ?_ | refine wp_skip ?_ | refine wp_exit ?_ | refine wp_ret ?_ | refine seqQ_norm ?_ | refine seqQ_ret ?_ | refine seqQ_exit ?_ | refine blkQ_norm ?_ | refine blkQ_ret ?_ | refine blkQ_exit ?_ | refine loopQ_norm ?_ | refine loopQ_exit ?_ | refine loopQ_ret ?_ | refine endQ_ret ?_ | refine endQ_norm ?_ | refine endE_ret ?_ | refine endE_norm ?_ | refine endI_ret ?_ | refine endI_norm ?_)
    | (with_reducible refine wp_regK fun K hK => ?_
       simp[g2]
       repeat' (with_reducible first | refine hK _ ?_ | (refine psel ?_ ?_ <;> (intro hc; (try rw [Decidable.not_not] at hc); first | (exfalso; omega) | (try simp [hc, g2]))))
       all_goals (clear hK; clear K))
    | (with_reducible refine wp_condE ?_
       refine ⟨_, rfl, ?_, ?_⟩ <;> (intro hc; (try simp at hc); (all_goals first | (exfalso; omega) | skip))))
  · exact ⟨-1, by simp [pf216], by omega, by omega, fun h => absurd h (by omega)⟩
  obtain ⟨n3, g3, a3, b3, s3⟩ := t224 k0 x_Res_Rows x_Res_N x_Res_Has x_Res_V_Ty x_Res_V_N x_Res_V_S n2 (by omega) (by omega) hok_x_Res_Rows hoks_x_Res_Rows hok_x_Res_V_S
  repeat' (first
    | with_reducible (first | refine wp_seq ?_ | refine wp_blk ?_ | refine wp_skip ?_ | refine wp_exit ?_ | refine wp_ret ?_ | refine seqQ_norm ?_ | refine seqQ_ret ?_ | refine seqQ_exit ?_ | refine blkQ_norm ?_ | refine blkQ_ret ?_ | refine blkQ_exit ?_ | refine loopQ_norm ?_ | refine loopQ_exit ?_ | refine loopQ_ret ?_ | refine endQ_ret ?_ | refine endQ_norm ?_ | refine endE_ret ?_ | refine endE_norm ?_ | refine endI_ret ?_ | refine endI_norm ?_)
    | (with_reducible refine wp_regK fun K hK => ?_
       simp[g3]
       repeat' (with_reducible first | refine hK _ ?_ | (refine psel ?_ ?_ <;> (intro hc; (try rw [Decidable.not_not] at hc); first | (exfalso; omega) | (try simp [hc, g3]))))
       all_goals (clear hK; clear K))
    | (with_reducible refine wp_condE ?_
       refine ⟨_, rfl, ?_, ?_⟩ <;> (intro hc; (try simp at hc); (all_goals first | (exfalso; omega) | skip))))
  · exact ⟨-1, by simp [pf216], by omega, by omega, fun h => absurd h (by omega)⟩
  · exact ⟨n3, by simp [pf216], by omega, by omega, fun _ => ⟨(s1 (by omega)).1, (s1 (by omega)).2, (s2 (by omega)).1, (s2 (by omega)).2.1, (s2 (by omega)).2.2.1, (s2 (by omega)).2.2.2, (s3 (by omega)).1, (s3 (by omega)).2.1, (s3 (by omega)).2.2⟩⟩

theorem t217 (k0 : Bool) (l : List XDeed) (left : Int) (h0 : 0 ≤ left) (h1 : left ≤ 1048576) (hl : l.length ≤ 9223372036854775807) (hok : XDeed.oks l) :
    ∃ n, Gw TT 217 [.one (.ro k0 (.sl 25 (l.map XDeed.e))), vi left] = some (vi n, []) ∧ -1 ≤ n ∧ n ≤ left ∧ (0 ≤ n → l.length ≤ 1048576 ∧ XDeed.sms l) := by
  refine Gw_ofI (F := pf217) rfl rfl ?_
  show Wp _ pb217 _ _
  unfold pb217
  have g : IntKind.wrap .i64 (left - (l.length : Int)) = left - (l.length : Int) := wrap_i64 (by omega) (by omega)
  repeat' (first
    | with_reducible (first | refine wp_seq ?_ | refine wp_blk ?_ | refine wp_skip ?_ | refine wp_exit ?_ | refine wp_ret ?_ | refine seqQ_norm ?_ | refine seqQ_ret ?_ | refine seqQ_exit ?_ | refine blkQ_norm ?_ | refine blkQ_ret ?_ | refine blkQ_exit ?_ | refine loopQ_norm ?_ | refine loopQ_exit ?_ | refine loopQ_ret ?_ | refine endQ_ret ?_ | refine endQ_norm ?_ | refine endE_ret ?_ | refine endE_norm ?_ | refine endI_ret ?_ | refine endI_norm ?_)
    | (with_reducible refine wp_regK fun K hK => ?_
       simp[g]
       repeat' (with_reducible first | refine hK _ ?_ | (refine psel ?_ ?_ <;> (intro hc; (try rw [Decidable.not_not] at hc); first | (exfalso; omega) | (try simp [hc, g]))))
       all_goals (clear hK; clear K))
    | (with_reducible refine wp_condE ?_
       refine ⟨_, rfl, ?_, ?_⟩ <;> (intro hc; (try simp at hc); (all_goals first | (exfalso; omega) | skip))))
  · exact ⟨-1, by simp [pf217], by omega, by omega, fun h => absurd h (by omega)⟩
  · refine wp_loopI (σ := List XDeed × List XDeed × Int) (fun s => [(0, AV.v k0 (D.sl 25 (List.map XDeed.e l)), none), (1, AV.v false (di s.2.2), none), (5, AV.v false (di (s.1.length : Nat)), none)]) (fun s => l = s.1 ++ s.2.1 ∧ 0 ≤ s.2.2 ∧ s.2.2 ≤ left - (l.length : Int) ∧ XDeed.sms s.1) (fun s => s.2.1.length) ([], l, left - (l.length : Int)) (by simp) ⟨rfl, by simp only; omega, by simp only; omega, fun y hy => by simp at hy⟩ ?_
    rintro ⟨pre, rest, lf⟩ ⟨h2, h3, h4, h5⟩
    simp only at h2 h3 h4 h5
    subst h2
    simp only [List.length_append, List.length_cons] at hl h4 g
    rcases rest with _ | ⟨⟨y_Op, y_Task, y_R, y_Id, ⟨y_Q_Kind, ⟨y_Q_P_Kind, y_Q_P_Col, y_Q_P_Op, ⟨y_Q_P_V_Ty, y_Q_P_V_N, y_Q_P_V_S⟩, y_Q_P_L⟩, y_Q_Col, y_Q_Out⟩, ⟨y_Res_Rows, y_Res_N, y_Res_Has, ⟨y_Res_V_Ty, y_Res_V_N, y_Res_V_S⟩⟩, y_Code, y_Stamp, y_Inv, y_Lin, y_Ret⟩, rest⟩
    · unfold pl217_0
      repeat' (first
        | with_reducible (first | refine wp_seq ?_ | refine wp_blk ?_ | refine wp_skip ?_ | refine wp_exit ?_ | refine wp_ret ?_ | refine seqQ_norm ?_ | refine seqQ_ret ?_ | refine seqQ_exit ?_ | refine blkQ_norm ?_ | refine blkQ_ret ?_ | refine blkQ_exit ?_ | refine loopQ_norm ?_ | refine loopQ_exit ?_ | refine loopQ_ret ?_ | refine endQ_ret ?_ | refine endQ_norm ?_ | refine endE_ret ?_ | refine endE_norm ?_ | refine endI_ret ?_ | refine endI_norm ?_)
        | (with_reducible refine wp_regK fun K hK => ?_
           simp
           repeat' (with_reducible first | refine hK _ ?_ | (refine psel ?_ ?_ <;> (intro hc; (try rw [Decidable.not_not] at hc); first | (exfalso; omega) | (try simp [hc]))))
           all_goals (clear hK; clear K))
        | (with_reducible refine wp_condE ?_
           refine ⟨_, rfl, ?_, ?_⟩ <;> (intro hc; (try simp at hc); (all_goals first | (exfalso; omega) | skip))))
      simp only [List.length_nil] at h4
      all_goals exact ⟨lf, by simp [pf217], by omega, by omega, fun _ => ⟨by simp; omega, by simpa using h5⟩⟩
    · unfold pl217_0
      simp only [List.length_cons] at hl h4
      have hw : IntKind.wrap .i64 ((pre.length : Int) + 1) = (pre.length : Int) + 1 := wrap_i64 (by omega) (by omega)
      have hd := hok ⟨y_Op, y_Task, y_R, y_Id, ⟨y_Q_Kind, ⟨y_Q_P_Kind, y_Q_P_Col, y_Q_P_Op, ⟨y_Q_P_V_Ty, y_Q_P_V_N, y_Q_P_V_S⟩, y_Q_P_L⟩, y_Q_Col, y_Q_Out⟩, ⟨y_Res_Rows, y_Res_N, y_Res_Has, ⟨y_Res_V_Ty, y_Res_V_N, y_Res_V_S⟩⟩, y_Code, y_Stamp, y_Inv, y_Lin, y_Ret⟩ (by simp)
      simp only [XDeed.ok, XQuery.ok, XPred.ok_eq, XVal.ok, XResult.ok, and_assoc] at hd
      obtain ⟨hlo_y_Op, hhi_y_Op, hlo_y_Task, hhi_y_Task, hok_y_R, hoks_y_R, hlo_y_Id, hhi_y_Id, hlo_y_Q_Kind, hhi_y_Q_Kind, hlo_y_Q_P_Kind, hhi_y_Q_P_Kind, hlo_y_Q_P_Col, hhi_y_Q_P_Col, hlo_y_Q_P_Op, hhi_y_Q_P_Op, hlo_y_Q_P_V_Ty, hhi_y_Q_P_V_Ty, hlo_y_Q_P_V_N, hhi_y_Q_P_V_N, hok_y_Q_P_V_S, hok_y_Q_P_L, hoks_y_Q_P_L, hlo_y_Q_Col, hhi_y_Q_Col, hok_y_Q_Out, hoki_y_Q_Out, hok_y_Res_Rows, hoks_y_Res_Rows, hlo_y_Res_N, hhi_y_Res_N, hlo_y_Res_V_Ty, hhi_y_Res_V_Ty, hlo_y_Res_V_N, hhi_y_Res_V_N, hok_y_Res_V_S, hlo_y_Code, hhi_y_Code, hlo_y_Stamp, hhi_y_Stamp, hlo_y_Inv, hhi_y_Inv, hlo_y_Lin, hhi_y_Lin, hlo_y_Ret, hhi_y_Ret⟩ := hd
      obtain ⟨n1, g1, a1, b1, s1⟩ := t216 k0 y_Op y_Task y_R y_Id y_Q_Kind y_Q_P_Kind y_Q_P_Col y_Q_P_Op y_Q_P_V_Ty y_Q_P_V_N y_Q_P_V_S y_Q_P_L y_Q_Col y_Q_Out y_Res_Rows y_Res_N y_Res_Has y_Res_V_Ty y_Res_V_N y_Res_V_S y_Code y_Stamp y_Inv y_Lin y_Ret lf (by omega) (by omega) hok_y_R hoks_y_R hok_y_Q_P_V_S hok_y_Q_P_L hoks_y_Q_P_L hok_y_Q_Out hok_y_Res_Rows hoks_y_Res_Rows hok_y_Res_V_S
      repeat' (first
        | with_reducible (first | refine wp_seq ?_ | refine wp_blk ?_ | refine wp_skip ?_ | refine wp_exit ?_ | refine wp_ret ?_ | refine seqQ_norm ?_ | refine seqQ_ret ?_ | refine seqQ_exit ?_ | refine blkQ_norm ?_ | refine blkQ_ret ?_ | refine blkQ_exit ?_ | refine loopQ_norm ?_ | refine loopQ_exit ?_ | refine loopQ_ret ?_ | refine endQ_ret ?_ | refine endQ_norm ?_ | refine endE_ret ?_ | refine endE_norm ?_ | refine endI_ret ?_ | refine endI_norm ?_)
        | (with_reducible refine wp_regK fun K hK => ?_
           simp[g1, hw]
           repeat' (with_reducible first | refine hK _ ?_ | (refine psel ?_ ?_ <;> (intro hc; (try rw [Decidable.not_not] at hc); first | (exfalso; omega) | (try simp [hc, g1, hw]))))
           all_goals (clear hK; clear K))
        | (with_reducible refine wp_condE ?_
           refine ⟨_, rfl, ?_, ?_⟩ <;> (intro hc; (try simp at hc); (all_goals first | (exfalso; omega) | skip))))
      · exact ⟨-1, by simp [pf217], by omega, by omega, fun h => absurd h (by omega)⟩
      · exact ⟨(pre ++ [⟨y_Op, y_Task, y_R, y_Id, ⟨y_Q_Kind, ⟨y_Q_P_Kind, y_Q_P_Col, y_Q_P_Op, ⟨y_Q_P_V_Ty, y_Q_P_V_N, y_Q_P_V_S⟩, y_Q_P_L⟩, y_Q_Col, y_Q_Out⟩, ⟨y_Res_Rows, y_Res_N, y_Res_Has, ⟨y_Res_V_Ty, y_Res_V_N, y_Res_V_S⟩⟩, y_Code, y_Stamp, y_Inv, y_Lin, y_Ret⟩], rest, n1), by simp, ⟨by simp, by simp only; omega, by simp only [List.length_append, List.length_cons]; omega, fun y hy => by
          rcases List.mem_append.1 hy with hy | hy
          · exact h5 y hy
          · rw [List.mem_singleton.1 hy]
            simp only [XDeed.sm, XQuery.sm, XPred.sm_eq, XVal.sm, XResult.sm, and_assoc]
            exact s1 (by omega)⟩, by simp⟩

@[simp] theorem take_mid {α : Type} {n : Nat} (l r : List α) (h : n = l.length) : (l ++ r).take n = l := by subst h; simp

@[simp] theorem bytesStr_map (l : List Int) : bytesStr (l.map eb) = some (l.map fun n => UInt8.ofNat n.toNat) := by
  induction l with
  | nil => rfl
  | cons n l ih =>
    have : bytesStr (List.map eb (n :: l)) = match bytesStr (l.map eb) with
      | some bs => some (UInt8.ofNat n.toNat :: bs)
      | none => none := rfl
    rw [this, ih]; rfl

@[simp] theorem flatD_nil : flatD [] = true := rfl

@[simp] theorem flatD_map {α : Type} (f : α → List D) (l : List α) (h : ∀ x, (f x).all D.scal = true) : flatD (l.map f) = true := by
  simp only [flatD, List.all_map, List.all_eq_true, Function.comp]
  exact fun x _ => List.all_eq_true.1 (h x)

@[simp] theorem flatD_one (e : List D) (l : List (List D)) : flatD (e :: l) = (e.all D.scal && flatD l) := rfl

@[simp] theorem flatD_app (l m : List (List D)) : flatD (l ++ m) = (flatD l && flatD m) := by simp [flatD]

@[simp] theorem live_int (k : IntKind) (n : Int) : (D.int k n).live = true := rfl

@[simp] theorem live_bool (b : Bool) : (D.bool b).live = true := rfl

@[simp] theorem live_str (s : ByteArray) : (D.str s).live = true := rfl

@[simp] theorem live_sl (sz : Nat) (es : List (List D)) : (D.sl sz es).live = true := rfl

def digF (k : Nat) (out : ByteArray) : ByteArray :=
  if h : k = 0 then out else digF (k / 10) (⟨#[UInt8.ofNat (IntKind.wrap .u8 (48 + ((k : Int).tmod 10))).toNat]⟩ ++ out)
termination_by k
decreasing_by omega

def mtext (k : Int) : ByteArray := if k ≤ 0 then ⟨#[109, 48]⟩ else ⟨#[109]⟩ ++ digF k.toNat ⟨#[]⟩

@[simp] theorem ba_one (x : UInt8) : (ByteArray.mk #[x]).size = 1 := rfl

theorem digF_zero (out : ByteArray) : digF 0 out = out := by unfold digF; simp

theorem digF_succ (k : Nat) (out : ByteArray) (h : k ≠ 0) : digF k out = digF (k / 10) (⟨#[UInt8.ofNat (IntKind.wrap .u8 (48 + ((k : Int).tmod 10))).toNat]⟩ ++ out) := by
  rw [digF]; simp [h]

@[simp] theorem t196 (k : Int) (h : k ≤ 4611686018427387904) : Gw TT 196 [vi k] = some (.one (.ro false (.str (mtext k))), []) := by
  refine Gw_of (F := pf196) rfl rfl ?_
  show Wp _ pb196 _ _
  unfold pb196
  repeat' (first
    | with_reducible (first | refine wp_seq ?_ | refine wp_blk ?_ | refine wp_skip ?_ | refine wp_exit ?_ | refine wp_ret ?_ | refine seqQ_norm ?_ | refine seqQ_ret ?_ | refine seqQ_exit ?_ | refine blkQ_norm ?_ | refine blkQ_ret ?_ | refine blkQ_exit ?_ | refine loopQ_norm ?_ | refine loopQ_exit ?_ | refine loopQ_ret ?_ | refine endQ_ret ?_ | refine endQ_norm ?_ | refine endE_ret ?_ | refine endE_norm ?_ | refine endI_ret ?_ | refine endI_norm ?_)
    | (with_reducible refine wp_regK fun K hK => ?_
       simp
       repeat' (with_reducible first | refine hK _ ?_ | (refine psel ?_ ?_ <;> (intro hc; (try rw [Decidable.not_not] at hc); first | (exfalso; omega) | (try simp [hc]))))
       all_goals (clear hK; clear K))
    | (with_reducible refine wp_condE ?_
       refine ⟨_, rfl, ?_, ?_⟩ <;> (intro hc; (try simp at hc); (all_goals first | (exfalso; omega) | skip))))
  · simp [pf196, mtext, *]
  · refine wp_loopI (σ := Nat × ByteArray) (fun s => [(0, AV.v false (di ((s.1 : Nat) : Int)), none), (3, AV.v false (.str s.2), none)]) (fun s => digF s.1 s.2 = digF k.toNat ⟨#[]⟩ ∧ s.1 + s.2.size ≤ k.toNat) (fun s => s.1) (k.toNat, ⟨#[]⟩) (by simp; omega) ⟨rfl, Nat.le_refl _⟩ ?_
    rintro ⟨n, out⟩ ⟨h1, h2⟩
    simp only at h1 h2
    unfold pl196_0
    have ht : (n : Int).tmod 10 = (n : Int) % 10 := Int.tmod_eq_emod_of_nonneg (by omega)
    have hq : IntKind.wrap .i64 (48 + (n : Int).tmod 10) = 48 + (n : Int).tmod 10 := by rw [ht]; exact wrap_i64 (by omega) (by omega)
    have hd : IntKind.wrap .i64 ((n : Int).tdiv 10) = ((n / 10 : Nat) : Int) := by rw [Int.tdiv_eq_ediv_of_nonneg (by omega)]; rw [wrap_i64 (by omega) (by omega)]; omega
    have hs1 : (9223372036854775807 < 1 + (out.size : Int)) = False := by simp only [eq_iff_iff, iff_false]; omega
    have hd2 : IntKind.wrap .i64 ((n : Int) / 10) = (n : Int) / 10 := wrap_i64 (by omega) (by omega)
    repeat' (first
      | with_reducible (first | refine wp_seq ?_ | refine wp_blk ?_ | refine wp_skip ?_ | refine wp_exit ?_ | refine wp_ret ?_ | refine seqQ_norm ?_ | refine seqQ_ret ?_ | refine seqQ_exit ?_ | refine blkQ_norm ?_ | refine blkQ_ret ?_ | refine blkQ_exit ?_ | refine loopQ_norm ?_ | refine loopQ_exit ?_ | refine loopQ_ret ?_ | refine endQ_ret ?_ | refine endQ_norm ?_ | refine endE_ret ?_ | refine endE_norm ?_ | refine endI_ret ?_ | refine endI_norm ?_)
      | (with_reducible refine wp_regK fun K hK => ?_
         simp[hq, hd, hs1]
         repeat' (with_reducible first | refine hK _ ?_ | (refine psel ?_ ?_ <;> (intro hc; (try rw [Decidable.not_not] at hc); first | (exfalso; omega) | (try simp [hc, hq, hd, hs1]))))
         all_goals (clear hK; clear K))
      | (with_reducible refine wp_condE ?_
         refine ⟨_, rfl, ?_, ?_⟩ <;> (intro hc; (try simp at hc); (all_goals first | (exfalso; omega) | skip))))
    all_goals first | (exact ⟨(n / 10, ⟨#[UInt8.ofNat (IntKind.wrap .u8 (48 + (n : Int).tmod 10)).toNat]⟩ ++ out), by simp [hd2], ⟨by rw [← h1, digF_succ n out (by omega)], by simp only [ByteArray.size_append, ba_one]; omega⟩, by simp only; omega⟩) | skip
    all_goals first | (exfalso; omega) | (subst hc; rw [digF_zero] at h1; have hk : ¬ k ≤ 0 := by omega
                                          subst h1; simp [pf196, mtext, hk]; done)

def ctInt : Int → Int
  | d => 1

def ctInts : List Int → Int
  | [] => 0
  | x :: l => ctInt x + ctInts l

def mkInt : Int → Int → Int
  | k, d => k

def mkInts : Int → List Int → List Int
  | _, [] => []
  | k, x :: l => mkInt k x :: mkInts (k + ctInt x) l

theorem ctInt_pos : ∀ x : Int, 1 ≤ ctInt x
  | d => by simp only [ctInt]; omega

theorem ctInts_len : ∀ l : List Int, (l.length : Int) ≤ ctInts l
  | [] => by simp [ctInts]
  | x :: l => by have h1 := ctInt_pos x; have h2 := ctInts_len l; simp only [ctInts, List.length_cons]; omega

theorem ctInts_nn (l : List Int) : 0 ≤ ctInts l := by have := ctInts_len l; omega

@[simp] theorem mkInts_len : ∀ (k : Int) (l : List Int), (mkInts k l).length = l.length
  | _, [] => by simp [mkInts]
  | k, x :: l => by simp [mkInts, mkInts_len]

theorem ctInts_le : ∀ l : List Int, ctInts l = 1 * (l.length : Int)
  | [] => by simp [ctInts]
  | x :: l => by have h2 := ctInts_le l; simp only [ctInts, List.length_cons, ctInt]; omega

theorem chainInt (k1 : Int) (h0 : 0 ≤ k1)  (hB : k1 + (1) ≤ 4611686018427387904) :
    ∃ w1 : Int, w1 = k1 + 1 ∧ IntKind.wrap .i64 (k1 + 1) = w1 ∧ k1 + (1) = w1 ∧ 0 ≤ w1 :=
  ⟨k1 + 1, rfl, wrap_i64 (by omega) (by omega), by omega, by omega⟩

def ctVal : XVal → Int
  | ⟨y_Ty, y_N, y_S⟩ => 1 + 1 + 1

def ctVals : List XVal → Int
  | [] => 0
  | x :: l => ctVal x + ctVals l

def mkVal : Int → XVal → XVal
  | k, ⟨y_Ty, y_N, y_S⟩ => ⟨k, k + 1, mtext (k + 1 + 1)⟩

def mkVals : Int → List XVal → List XVal
  | _, [] => []
  | k, x :: l => mkVal k x :: mkVals (k + ctVal x) l

theorem ctVal_pos : ∀ x : XVal, 1 ≤ ctVal x
  | ⟨y_Ty, y_N, y_S⟩ => by simp only [ctVal]; omega

theorem ctVals_len : ∀ l : List XVal, (l.length : Int) ≤ ctVals l
  | [] => by simp [ctVals]
  | x :: l => by have h1 := ctVal_pos x; have h2 := ctVals_len l; simp only [ctVals, List.length_cons]; omega

theorem ctVals_nn (l : List XVal) : 0 ≤ ctVals l := by have := ctVals_len l; omega

@[simp] theorem mkVals_len : ∀ (k : Int) (l : List XVal), (mkVals k l).length = l.length
  | _, [] => by simp [mkVals]
  | k, x :: l => by simp [mkVals, mkVals_len]

theorem chainVal (k1 : Int) (h0 : 0 ≤ k1)  (hB : k1 + (1 + 1 + 1) ≤ 4611686018427387904) :
    ∃ w1 w2 w3 : Int, w1 = k1 + 1 ∧ IntKind.wrap .i64 (k1 + 1) = w1 ∧ w2 = w1 + 1 ∧ IntKind.wrap .i64 (w1 + 1) = w2 ∧ w3 = w2 + 1 ∧ IntKind.wrap .i64 (w2 + 1) = w3 ∧ w2 ≤ 4611686018427387904 ∧ k1 + (1 + 1 + 1) = w3 ∧ 0 ≤ w3 :=
  ⟨k1 + 1, k1 + 1 + 1, k1 + 1 + 1 + 1, rfl, wrap_i64 (by omega) (by omega), rfl, wrap_i64 (by omega) (by omega), rfl, wrap_i64 (by omega) (by omega), by omega, by omega, by omega⟩

def ctRow : XRow → Int
  | ⟨y_Id, y_L⟩ => 1 + ctVals y_L

def ctRows : List XRow → Int
  | [] => 0
  | x :: l => ctRow x + ctRows l

def mkRow : Int → XRow → XRow
  | k, ⟨y_Id, y_L⟩ => ⟨k, mkVals (k + 1) y_L⟩

def mkRows : Int → List XRow → List XRow
  | _, [] => []
  | k, x :: l => mkRow k x :: mkRows (k + ctRow x) l

theorem ctRow_pos : ∀ x : XRow, 1 ≤ ctRow x
  | ⟨y_Id, y_L⟩ => by have h_y_L := ctVals_nn y_L; simp only [ctRow]; omega

theorem ctRows_len : ∀ l : List XRow, (l.length : Int) ≤ ctRows l
  | [] => by simp [ctRows]
  | x :: l => by have h1 := ctRow_pos x; have h2 := ctRows_len l; simp only [ctRows, List.length_cons]; omega

theorem ctRows_nn (l : List XRow) : 0 ≤ ctRows l := by have := ctRows_len l; omega

@[simp] theorem mkRows_len : ∀ (k : Int) (l : List XRow), (mkRows k l).length = l.length
  | _, [] => by simp [mkRows]
  | k, x :: l => by simp [mkRows, mkRows_len]

theorem chainRow (k1 a_y_L : Int) (h0 : 0 ≤ k1) (h_y_L : 0 ≤ a_y_L) (hB : k1 + (1 + a_y_L) ≤ 4611686018427387904) :
    ∃ w1 w2 : Int, w1 = k1 + 1 ∧ IntKind.wrap .i64 (k1 + 1) = w1 ∧ w2 = w1 + a_y_L ∧ 0 ≤ w1 ∧ w2 ≤ 4611686018427387904 ∧ ¬ w2 < 0 ∧ k1 + (1 + a_y_L) = w2 ∧ 0 ≤ w2 :=
  ⟨k1 + 1, k1 + 1 + a_y_L, rfl, wrap_i64 (by omega) (by omega), rfl, by omega, by omega, by omega, by omega, by omega⟩

@[simp] theorem t190 (l : List Int) (k : Int) (h0 : 0 ≤ k) (hc : k + ctInts l ≤ 4611686018427387904) : Gw TT 190 [.one (.own (.sl 1 (l.map ei))), vi k] = some (vi (k + ctInts l), [(0, 0, .own (.sl 1 ((mkInts k l).map ei)))]) := by
  refine Gw_of (F := pf190) rfl rfl ?_
  show Wp _ pb190 _ _
  unfold pb190
  generalize hM : mkInts k l = M
  have hlen := ctInts_len l
  repeat' (first
    | with_reducible (first | refine wp_seq ?_ | refine wp_blk ?_ | refine wp_skip ?_ | refine wp_exit ?_ | refine wp_ret ?_ | refine seqQ_norm ?_ | refine seqQ_ret ?_ | refine seqQ_exit ?_ | refine blkQ_norm ?_ | refine blkQ_ret ?_ | refine blkQ_exit ?_ | refine loopQ_norm ?_ | refine loopQ_exit ?_ | refine loopQ_ret ?_ | refine endQ_ret ?_ | refine endQ_norm ?_ | refine endE_ret ?_ | refine endE_norm ?_ | refine endI_ret ?_ | refine endI_norm ?_)
    | (with_reducible refine wp_regK fun K hK => ?_
       simp
       repeat' (with_reducible first | refine hK _ ?_ | (refine psel ?_ ?_ <;> (intro hc; (try rw [Decidable.not_not] at hc); first | (exfalso; omega) | (try simp [hc]))))
       all_goals (clear hK; clear K))
    | (with_reducible refine wp_condE ?_
       refine ⟨_, rfl, ?_, ?_⟩ <;> (intro hc; (try simp at hc); (all_goals first | (exfalso; omega) | skip))))
  · refine wp_loopI (σ := List Int × List Int × Int) (fun s => [(0, AV.pl 0 0 [], some (Rt.vir [C.own (D.sl 1 (s.1.map ei ++ s.2.1.map ei))])), (1, AV.v false (di s.2.2), none), (5, AV.v false (di ((s.1.length : Nat) : Int)), none)]) (fun s => M = s.1 ++ mkInts s.2.2 s.2.1 ∧ s.2.2 + ctInts s.2.1 = k + ctInts l ∧ s.1.length + s.2.1.length = l.length ∧ 0 ≤ s.2.2) (fun s => s.2.1.length) ([], l, k) (by simp) ⟨hM.symm, rfl, by simp, h0⟩ ?_
    rintro ⟨pre, rest, k1⟩ ⟨h1, h2, h3, h4⟩
    simp only at h1 h2 h3 h4
    rcases rest with _ | ⟨d, rest⟩
    · unfold pl190_0
      simp only [mkInts, ctInts, List.append_nil, Int.add_zero] at h1 h2
      subst h1
      repeat' (first
        | with_reducible (first | refine wp_seq ?_ | refine wp_blk ?_ | refine wp_skip ?_ | refine wp_exit ?_ | refine wp_ret ?_ | refine seqQ_norm ?_ | refine seqQ_ret ?_ | refine seqQ_exit ?_ | refine blkQ_norm ?_ | refine blkQ_ret ?_ | refine blkQ_exit ?_ | refine loopQ_norm ?_ | refine loopQ_exit ?_ | refine loopQ_ret ?_ | refine endQ_ret ?_ | refine endQ_norm ?_ | refine endE_ret ?_ | refine endE_norm ?_ | refine endI_ret ?_ | refine endI_norm ?_)
        | (with_reducible refine wp_regK fun K hK => ?_
           simp
           repeat' (with_reducible first | refine hK _ ?_ | (refine psel ?_ ?_ <;> (intro hc; (try rw [Decidable.not_not] at hc); first | (exfalso; omega) | (try simp [hc]))))
           all_goals (clear hK; clear K))
        | (with_reducible refine wp_condE ?_
           refine ⟨_, rfl, ?_, ?_⟩ <;> (intro hc; (try simp at hc); (all_goals first | (exfalso; omega) | skip))))
      all_goals simp [pf190, h2]
    · unfold pl190_0
      simp only [mkInts, ctInts, mkInt, ctInt, List.length_cons] at h1 h2 h3
      have hnr := ctInts_nn rest
      have hw : IntKind.wrap .i64 ((pre.length : Int) + 1) = (pre.length : Int) + 1 := wrap_i64 (by omega) (by omega)
      have hlt : (pre.length : Int) < (pre.length : Int) + ((rest.length : Int) + 1) := by omega
      have hl2 : (pre ++ [mkInt k1 d]).length + rest.length = l.length := by simp only [List.length_append, List.length_cons, List.length_nil]; omega
      have hB2 : k1 + (1) + ctInts rest = k + ctInts l := by omega
      obtain ⟨w1, hv0, hw0, hE, hZ⟩ := chainInt k1  h4  (by omega)
      rw [hE] at h1 hB2
      try simp only [← hv0] at h1
      subst h1
      repeat' (first
        | with_reducible (first | refine wp_seq ?_ | refine wp_blk ?_ | refine wp_skip ?_ | refine wp_exit ?_ | refine wp_ret ?_ | refine seqQ_norm ?_ | refine seqQ_ret ?_ | refine seqQ_exit ?_ | refine blkQ_norm ?_ | refine blkQ_ret ?_ | refine blkQ_exit ?_ | refine loopQ_norm ?_ | refine loopQ_exit ?_ | refine loopQ_ret ?_ | refine endQ_ret ?_ | refine endQ_norm ?_ | refine endE_ret ?_ | refine endE_norm ?_ | refine endI_ret ?_ | refine endI_norm ?_)
        | (with_reducible refine wp_regK fun K hK => ?_
           simp[hw0, hw, hlt]
           repeat' (with_reducible first | refine hK _ ?_ | (refine psel ?_ ?_ <;> (intro hc; (try rw [Decidable.not_not] at hc); first | (try simp [hc, hw0, hw, hlt]))))
           all_goals (clear hK; clear K))
        | (with_reducible refine wp_condE ?_
           refine ⟨_, rfl, ?_, ?_⟩ <;> (intro hc; (try simp at hc); skip)))
      all_goals first | exact ⟨(pre ++ [mkInt k1 d], rest, w1), by simp [mkInt, hv0], ⟨by simp [mkInt, hv0], hB2, hl2, hZ⟩, by simp⟩ | (exfalso; simp_all; done)

@[simp] theorem t175 (k0 : Bool) (l : List Int) (k : Int) (h0 : 0 ≤ k) (hc : k + ctInts l ≤ 4611686018427387904) : Gw TT 175 [.one (.ro k0 (.sl 1 ((mkInts k l).map ei))), vi k] = some (vi (k + ctInts l), []) := by
  refine Gw_of (F := pf175) rfl rfl ?_
  show Wp _ pb175 _ _
  unfold pb175
  generalize hM : mkInts k l = M
  have hlen := ctInts_len l
  repeat' (first
    | with_reducible (first | refine wp_seq ?_ | refine wp_blk ?_ | refine wp_skip ?_ | refine wp_exit ?_ | refine wp_ret ?_ | refine seqQ_norm ?_ | refine seqQ_ret ?_ | refine seqQ_exit ?_ | refine blkQ_norm ?_ | refine blkQ_ret ?_ | refine blkQ_exit ?_ | refine loopQ_norm ?_ | refine loopQ_exit ?_ | refine loopQ_ret ?_ | refine endQ_ret ?_ | refine endQ_norm ?_ | refine endE_ret ?_ | refine endE_norm ?_ | refine endI_ret ?_ | refine endI_norm ?_)
    | (with_reducible refine wp_regK fun K hK => ?_
       simp
       repeat' (with_reducible first | refine hK _ ?_ | (refine psel ?_ ?_ <;> (intro hc; (try rw [Decidable.not_not] at hc); first | (exfalso; omega) | (try simp [hc]))))
       all_goals (clear hK; clear K))
    | (with_reducible refine wp_condE ?_
       refine ⟨_, rfl, ?_, ?_⟩ <;> (intro hc; (try simp at hc); (all_goals first | (exfalso; omega) | skip))))
  · refine wp_loopI (σ := List Int × List Int × Int) (fun s => [(0, AV.v k0 (D.sl 1 (M.map ei)), none), (1, AV.v false (di s.2.2), none), (5, AV.v false (di ((s.1.length : Nat) : Int)), none)]) (fun s => M = s.1 ++ mkInts s.2.2 s.2.1 ∧ s.2.2 + ctInts s.2.1 = k + ctInts l ∧ s.1.length + s.2.1.length = l.length ∧ 0 ≤ s.2.2) (fun s => s.2.1.length) ([], l, k) (by simp [hM]) ⟨hM.symm, rfl, by simp, h0⟩ ?_
    rintro ⟨pre, rest, k1⟩ ⟨h1, h2, h3, h4⟩
    simp only at h1 h2 h3 h4
    rcases rest with _ | ⟨d, rest⟩
    · unfold pl175_0
      simp only [mkInts, ctInts, List.append_nil, Int.add_zero] at h1 h2
      subst h1
      repeat' (first
        | with_reducible (first | refine wp_seq ?_ | refine wp_blk ?_ | refine wp_skip ?_ | refine wp_exit ?_ | refine wp_ret ?_ | refine seqQ_norm ?_ | refine seqQ_ret ?_ | refine seqQ_exit ?_ | refine blkQ_norm ?_ | refine blkQ_ret ?_ | refine blkQ_exit ?_ | refine loopQ_norm ?_ | refine loopQ_exit ?_ | refine loopQ_ret ?_ | refine endQ_ret ?_ | refine endQ_norm ?_ | refine endE_ret ?_ | refine endE_norm ?_ | refine endI_ret ?_ | refine endI_norm ?_)
        | (with_reducible refine wp_regK fun K hK => ?_
           simp
           repeat' (with_reducible first | refine hK _ ?_ | (refine psel ?_ ?_ <;> (intro hc; (try rw [Decidable.not_not] at hc); first | (exfalso; omega) | (try simp [hc]))))
           all_goals (clear hK; clear K))
        | (with_reducible refine wp_condE ?_
           refine ⟨_, rfl, ?_, ?_⟩ <;> (intro hc; (try simp at hc); (all_goals first | (exfalso; omega) | skip))))
      all_goals simp [pf175, h2]
    · unfold pl175_0
      simp only [mkInts, ctInts, mkInt, ctInt, List.length_cons] at h1 h2 h3
      have hnr := ctInts_nn rest
      have hw : IntKind.wrap .i64 ((pre.length : Int) + 1) = (pre.length : Int) + 1 := wrap_i64 (by omega) (by omega)
      have hlt : (pre.length : Int) < (pre.length : Int) + ((rest.length : Int) + 1) := by omega
      have hl2 : (pre ++ [mkInt k1 d]).length + rest.length = l.length := by simp only [List.length_append, List.length_cons, List.length_nil]; omega
      have hB2 : k1 + (1) + ctInts rest = k + ctInts l := by omega
      obtain ⟨w1, hv0, hw0, hE, hZ⟩ := chainInt k1  h4  (by omega)
      rw [hE] at h1 hB2
      try simp only [← hv0] at h1
      subst h1
      repeat' (first
        | with_reducible (first | refine wp_seq ?_ | refine wp_blk ?_ | refine wp_skip ?_ | refine wp_exit ?_ | refine wp_ret ?_ | refine seqQ_norm ?_ | refine seqQ_ret ?_ | refine seqQ_exit ?_ | refine blkQ_norm ?_ | refine blkQ_ret ?_ | refine blkQ_exit ?_ | refine loopQ_norm ?_ | refine loopQ_exit ?_ | refine loopQ_ret ?_ | refine endQ_ret ?_ | refine endQ_norm ?_ | refine endE_ret ?_ | refine endE_norm ?_ | refine endI_ret ?_ | refine endI_norm ?_)
        | (with_reducible refine wp_regK fun K hK => ?_
           simp[hw0, hw, hlt]
           repeat' (with_reducible first | refine hK _ ?_ | (refine psel ?_ ?_ <;> (intro hc; (try rw [Decidable.not_not] at hc); first | (try simp [hc, hw0, hw, hlt]))))
           all_goals (clear hK; clear K))
        | (with_reducible refine wp_condE ?_
           refine ⟨_, rfl, ?_, ?_⟩ <;> (intro hc; (try simp at hc); skip)))
      all_goals first | exact ⟨(pre ++ [mkInt k1 d], rest, w1), by simp [mkInt, hv0], ⟨by simp [mkInt, hv0], hB2, hl2, hZ⟩, by simp⟩ | (exfalso; simp_all; done)

@[simp] theorem t197 (l : List XVal) (k : Int) (h0 : 0 ≤ k) (hc : k + ctVals l ≤ 4611686018427387904) : Gw TT 197 [.one (.own (.sl 3 (l.map XVal.e))), vi k] = some (vi (k + ctVals l), [(0, 0, .own (.sl 3 ((mkVals k l).map XVal.e)))]) := by
  refine Gw_of (F := pf197) rfl rfl ?_
  show Wp _ pb197 _ _
  unfold pb197
  generalize hM : mkVals k l = M
  have hlen := ctVals_len l
  repeat' (first
    | with_reducible (first | refine wp_seq ?_ | refine wp_blk ?_ | refine wp_skip ?_ | refine wp_exit ?_ | refine wp_ret ?_ | refine seqQ_norm ?_ | refine seqQ_ret ?_ | refine seqQ_exit ?_ | refine blkQ_norm ?_ | refine blkQ_ret ?_ | refine blkQ_exit ?_ | refine loopQ_norm ?_ | refine loopQ_exit ?_ | refine loopQ_ret ?_ | refine endQ_ret ?_ | refine endQ_norm ?_ | refine endE_ret ?_ | refine endE_norm ?_ | refine endI_ret ?_ | refine endI_norm ?_)
    | (with_reducible refine wp_regK fun K hK => ?_
       simp
       repeat' (with_reducible first | refine hK _ ?_ | (refine psel ?_ ?_ <;> (intro hc; (try rw [Decidable.not_not] at hc); first | (exfalso; omega) | (try simp [hc]))))
       all_goals (clear hK; clear K))
    | (with_reducible refine wp_condE ?_
       refine ⟨_, rfl, ?_, ?_⟩ <;> (intro hc; (try simp at hc); (all_goals first | (exfalso; omega) | skip))))
  · refine wp_loopI (σ := List XVal × List XVal × Int) (fun s => [(0, AV.pl 0 0 [], some (Rt.vir [C.own (D.sl 3 (s.1.map XVal.e ++ s.2.1.map XVal.e))])), (1, AV.v false (di s.2.2), none), (5, AV.v false (di ((s.1.length : Nat) : Int)), none)]) (fun s => M = s.1 ++ mkVals s.2.2 s.2.1 ∧ s.2.2 + ctVals s.2.1 = k + ctVals l ∧ s.1.length + s.2.1.length = l.length ∧ 0 ≤ s.2.2) (fun s => s.2.1.length) ([], l, k) (by simp) ⟨hM.symm, rfl, by simp, h0⟩ ?_
    rintro ⟨pre, rest, k1⟩ ⟨h1, h2, h3, h4⟩
    simp only at h1 h2 h3 h4
    rcases rest with _ | ⟨⟨y_Ty, y_N, y_S⟩, rest⟩
    · unfold pl197_0
      simp only [mkVals, ctVals, List.append_nil, Int.add_zero] at h1 h2
      subst h1
      repeat' (first
        | with_reducible (first | refine wp_seq ?_ | refine wp_blk ?_ | refine wp_skip ?_ | refine wp_exit ?_ | refine wp_ret ?_ | refine seqQ_norm ?_ | refine seqQ_ret ?_ | refine seqQ_exit ?_ | refine blkQ_norm ?_ | refine blkQ_ret ?_ | refine blkQ_exit ?_ | refine loopQ_norm ?_ | refine loopQ_exit ?_ | refine loopQ_ret ?_ | refine endQ_ret ?_ | refine endQ_norm ?_ | refine endE_ret ?_ | refine endE_norm ?_ | refine endI_ret ?_ | refine endI_norm ?_)
        | (with_reducible refine wp_regK fun K hK => ?_
           simp
           repeat' (with_reducible first | refine hK _ ?_ | (refine psel ?_ ?_ <;> (intro hc; (try rw [Decidable.not_not] at hc); first | (exfalso; omega) | (try simp [hc]))))
           all_goals (clear hK; clear K))
        | (with_reducible refine wp_condE ?_
           refine ⟨_, rfl, ?_, ?_⟩ <;> (intro hc; (try simp at hc); (all_goals first | (exfalso; omega) | skip))))
      all_goals simp [pf197, h2]
    · unfold pl197_0
      simp only [mkVals, ctVals, mkVal, ctVal, List.length_cons] at h1 h2 h3
      have hnr := ctVals_nn rest
      have hw : IntKind.wrap .i64 ((pre.length : Int) + 1) = (pre.length : Int) + 1 := wrap_i64 (by omega) (by omega)
      have hlt : (pre.length : Int) < (pre.length : Int) + ((rest.length : Int) + 1) := by omega
      have hl2 : (pre ++ [mkVal k1 ⟨y_Ty, y_N, y_S⟩]).length + rest.length = l.length := by simp only [List.length_append, List.length_cons, List.length_nil]; omega
      have hB2 : k1 + (1 + 1 + 1) + ctVals rest = k + ctVals l := by omega
      obtain ⟨w1, w2, w3, hv0, hw0, hv1, hw1, hv2, hw2, ht2, hE, hZ⟩ := chainVal k1  h4  (by omega)
      rw [hE] at h1 hB2
      try simp only [← hv0, ← hv1, ← hv2] at h1
      subst h1
      repeat' (first
        | with_reducible (first | refine wp_seq ?_ | refine wp_blk ?_ | refine wp_skip ?_ | refine wp_exit ?_ | refine wp_ret ?_ | refine seqQ_norm ?_ | refine seqQ_ret ?_ | refine seqQ_exit ?_ | refine blkQ_norm ?_ | refine blkQ_ret ?_ | refine blkQ_exit ?_ | refine loopQ_norm ?_ | refine loopQ_exit ?_ | refine loopQ_ret ?_ | refine endQ_ret ?_ | refine endQ_norm ?_ | refine endE_ret ?_ | refine endE_norm ?_ | refine endI_ret ?_ | refine endI_norm ?_)
        | (with_reducible refine wp_regK fun K hK => ?_
           simp[hw0, hw1, hw2, ht2, hw, hlt]
           repeat' (with_reducible first | refine hK _ ?_ | (refine psel ?_ ?_ <;> (intro hc; (try rw [Decidable.not_not] at hc); first | (try simp [hc, hw0, hw1, hw2, ht2, hw, hlt]))))
           all_goals (clear hK; clear K))
        | (with_reducible refine wp_condE ?_
           refine ⟨_, rfl, ?_, ?_⟩ <;> (intro hc; (try simp at hc); skip)))
      all_goals first | exact ⟨(pre ++ [mkVal k1 ⟨y_Ty, y_N, y_S⟩], rest, w3), by simp [mkVal, hv0, hv1, hv2], ⟨by simp [mkVal, hv0, hv1, hv2], hB2, hl2, hZ⟩, by simp⟩ | (exfalso; simp_all; done)

@[simp] theorem t193 (l : List XRow) (k : Int) (h0 : 0 ≤ k) (hc : k + ctRows l ≤ 4611686018427387904) : Gw TT 193 [.one (.own (.sl 2 (l.map XRow.e))), vi k] = some (vi (k + ctRows l), [(0, 0, .own (.sl 2 ((mkRows k l).map XRow.e)))]) := by
  refine Gw_of (F := pf193) rfl rfl ?_
  show Wp _ pb193 _ _
  unfold pb193
  generalize hM : mkRows k l = M
  have hlen := ctRows_len l
  repeat' (first
    | with_reducible (first | refine wp_seq ?_ | refine wp_blk ?_ | refine wp_skip ?_ | refine wp_exit ?_ | refine wp_ret ?_ | refine seqQ_norm ?_ | refine seqQ_ret ?_ | refine seqQ_exit ?_ | refine blkQ_norm ?_ | refine blkQ_ret ?_ | refine blkQ_exit ?_ | refine loopQ_norm ?_ | refine loopQ_exit ?_ | refine loopQ_ret ?_ | refine endQ_ret ?_ | refine endQ_norm ?_ | refine endE_ret ?_ | refine endE_norm ?_ | refine endI_ret ?_ | refine endI_norm ?_)
    | (with_reducible refine wp_regK fun K hK => ?_
       simp
       repeat' (with_reducible first | refine hK _ ?_ | (refine psel ?_ ?_ <;> (intro hc; (try rw [Decidable.not_not] at hc); first | (exfalso; omega) | (try simp [hc]))))
       all_goals (clear hK; clear K))
    | (with_reducible refine wp_condE ?_
       refine ⟨_, rfl, ?_, ?_⟩ <;> (intro hc; (try simp at hc); (all_goals first | (exfalso; omega) | skip))))
  · refine wp_loopI (σ := List XRow × List XRow × Int) (fun s => [(0, AV.pl 0 0 [], some (Rt.vir [C.own (D.sl 2 (s.1.map XRow.e ++ s.2.1.map XRow.e))])), (1, AV.v false (di s.2.2), none), (5, AV.v false (di ((s.1.length : Nat) : Int)), none)]) (fun s => M = s.1 ++ mkRows s.2.2 s.2.1 ∧ s.2.2 + ctRows s.2.1 = k + ctRows l ∧ s.1.length + s.2.1.length = l.length ∧ 0 ≤ s.2.2) (fun s => s.2.1.length) ([], l, k) (by simp) ⟨hM.symm, rfl, by simp, h0⟩ ?_
    rintro ⟨pre, rest, k1⟩ ⟨h1, h2, h3, h4⟩
    simp only at h1 h2 h3 h4
    rcases rest with _ | ⟨⟨y_Id, y_L⟩, rest⟩
    · unfold pl193_0
      simp only [mkRows, ctRows, List.append_nil, Int.add_zero] at h1 h2
      subst h1
      repeat' (first
        | with_reducible (first | refine wp_seq ?_ | refine wp_blk ?_ | refine wp_skip ?_ | refine wp_exit ?_ | refine wp_ret ?_ | refine seqQ_norm ?_ | refine seqQ_ret ?_ | refine seqQ_exit ?_ | refine blkQ_norm ?_ | refine blkQ_ret ?_ | refine blkQ_exit ?_ | refine loopQ_norm ?_ | refine loopQ_exit ?_ | refine loopQ_ret ?_ | refine endQ_ret ?_ | refine endQ_norm ?_ | refine endE_ret ?_ | refine endE_norm ?_ | refine endI_ret ?_ | refine endI_norm ?_)
        | (with_reducible refine wp_regK fun K hK => ?_
           simp
           repeat' (with_reducible first | refine hK _ ?_ | (refine psel ?_ ?_ <;> (intro hc; (try rw [Decidable.not_not] at hc); first | (exfalso; omega) | (try simp [hc]))))
           all_goals (clear hK; clear K))
        | (with_reducible refine wp_condE ?_
           refine ⟨_, rfl, ?_, ?_⟩ <;> (intro hc; (try simp at hc); (all_goals first | (exfalso; omega) | skip))))
      all_goals simp [pf193, h2]
    · unfold pl193_0
      simp only [mkRows, ctRows, mkRow, ctRow, List.length_cons] at h1 h2 h3
      have hnr := ctRows_nn rest
      have hw : IntKind.wrap .i64 ((pre.length : Int) + 1) = (pre.length : Int) + 1 := wrap_i64 (by omega) (by omega)
      have hlt : (pre.length : Int) < (pre.length : Int) + ((rest.length : Int) + 1) := by omega
      have hl2 : (pre ++ [mkRow k1 ⟨y_Id, y_L⟩]).length + rest.length = l.length := by simp only [List.length_append, List.length_cons, List.length_nil]; omega
      have hB2 : k1 + (1 + ctVals y_L) + ctRows rest = k + ctRows l := by omega
      obtain ⟨w1, w2, hv0, hw0, hv1, hz1, hy1, hg1, hE, hZ⟩ := chainRow k1 (ctVals y_L) h4 (ctVals_nn y_L) (by omega)
      rw [hE] at h1 hB2
      try simp only [← hv0, ← hv1] at h1
      subst h1
      repeat' (first
        | with_reducible (first | refine wp_seq ?_ | refine wp_blk ?_ | refine wp_skip ?_ | refine wp_exit ?_ | refine wp_ret ?_ | refine seqQ_norm ?_ | refine seqQ_ret ?_ | refine seqQ_exit ?_ | refine blkQ_norm ?_ | refine blkQ_ret ?_ | refine blkQ_exit ?_ | refine loopQ_norm ?_ | refine loopQ_exit ?_ | refine loopQ_ret ?_ | refine endQ_ret ?_ | refine endQ_norm ?_ | refine endE_ret ?_ | refine endE_norm ?_ | refine endI_ret ?_ | refine endI_norm ?_)
        | (with_reducible refine wp_regK fun K hK => ?_
           simp[hw0, hz1, hy1, hg1, ← hv1, hw, hlt]
           repeat' (with_reducible first | refine hK _ ?_ | (refine psel ?_ ?_ <;> (intro hc; (try rw [Decidable.not_not] at hc); first | (try simp [hc, hw0, hz1, hy1, hg1, ← hv1, hw, hlt]))))
           all_goals (clear hK; clear K))
        | (with_reducible refine wp_condE ?_
           refine ⟨_, rfl, ?_, ?_⟩ <;> (intro hc; (try simp at hc); skip)))
      all_goals first | exact ⟨(pre ++ [mkRow k1 ⟨y_Id, y_L⟩], rest, w2), by simp [mkRow, hv0, hv1], ⟨by simp [mkRow, hv0, hv1], hB2, hl2, hZ⟩, by simp⟩ | (exfalso; simp_all; done)

@[simp] theorem take_all1 {α : Type} {n : Nat} (l r : List α) (x : α) (h : n = l.length + (r.length + 1)) : (l ++ x :: r).take n = l ++ x :: r := by
  rw [List.take_of_length_le]
  simp only [List.length_append, List.length_cons]
  omega

@[simp] theorem drop_mid1 {α : Type} {n : Nat} (l r : List α) (x : α) (h : n = l.length + 1) : (l ++ x :: r).drop n = r := by
  subst h
  rw [List.drop_append]
  simp

@[simp] theorem take_len_map {α β : Type} (f : α → β) (l : List α) : (l.map f).take l.length = l.map f := by
  rw [List.take_of_length_le]; simp

@[simp] theorem flatD_drop_map {α : Type} (f : α → List D) (l : List α) (n : Nat) (h : ∀ x, (f x).all D.scal = true) : flatD ((l.map f).drop n) = true := by
  rw [← List.map_drop]; exact flatD_map f _ h

@[simp] theorem flatD_take_map {α : Type} (f : α → List D) (l : List α) (n : Nat) (h : ∀ x, (f x).all D.scal = true) : flatD ((l.map f).take n) = true := by
  rw [← List.map_take]; exact flatD_map f _ h

mutual
def ctPred : XPred → Int
  | ⟨_, _, _, _, l⟩ => 1 + 1 + 1 + 1 + 1 + 1 + ctPreds l
def ctPreds : List XPred → Int
  | [] => 0
  | x :: l => ctPred x + ctPreds l
end

mutual
def mkPred : Int → XPred → XPred
  | k, ⟨y_Kind, y_Col, y_Op, ⟨y_V_Ty, y_V_N, y_V_S⟩, y_L⟩ => ⟨k, k + 1, k + 1 + 1, ⟨k + 1 + 1 + 1, k + 1 + 1 + 1 + 1, mtext (k + 1 + 1 + 1 + 1 + 1)⟩, mkPreds (k + 1 + 1 + 1 + 1 + 1 + 1) y_L⟩
def mkPreds : Int → List XPred → List XPred
  | _, [] => []
  | k, x :: l => mkPred k x :: mkPreds (k + ctPred x) l
end

mutual
theorem ctPred_pos : ∀ x : XPred, 1 ≤ ctPred x
  | ⟨_, _, _, _, l⟩ => by have := ctPreds_nn l; simp only [ctPred]; omega
theorem ctPreds_nn : ∀ l : List XPred, 0 ≤ ctPreds l
  | [] => by simp [ctPreds]
  | x :: l => by have h1 := ctPred_pos x; have h2 := ctPreds_nn l; simp only [ctPreds]; omega
end

theorem ctPreds_len : ∀ l : List XPred, (l.length : Int) ≤ ctPreds l
  | [] => by simp [ctPreds]
  | x :: l => by have h1 := ctPred_pos x; have h2 := ctPreds_len l; simp only [ctPreds, List.length_cons]; omega

@[simp] theorem mkPreds_len : ∀ (k : Int) (l : List XPred), (mkPreds k l).length = l.length
  | _, [] => by simp [mkPreds]
  | k, x :: l => by simp [mkPreds, mkPreds_len]

theorem chainPred (k1 a_y_L : Int) (h0 : 0 ≤ k1) (h_y_L : 0 ≤ a_y_L) (hB : k1 + (1 + 1 + 1 + 1 + 1 + 1 + a_y_L) ≤ 4611686018427387904) :
    ∃ w1 w2 w3 w4 w5 w6 w7 : Int, w1 = k1 + 1 ∧ IntKind.wrap .i64 (k1 + 1) = w1 ∧ w2 = w1 + 1 ∧ IntKind.wrap .i64 (w1 + 1) = w2 ∧ w3 = w2 + 1 ∧ IntKind.wrap .i64 (w2 + 1) = w3 ∧ w4 = w3 + 1 ∧ IntKind.wrap .i64 (w3 + 1) = w4 ∧ w5 = w4 + 1 ∧ IntKind.wrap .i64 (w4 + 1) = w5 ∧ w6 = w5 + 1 ∧ IntKind.wrap .i64 (w5 + 1) = w6 ∧ w5 ≤ 4611686018427387904 ∧ w7 = w6 + a_y_L ∧ 0 ≤ w6 ∧ w7 ≤ 4611686018427387904 ∧ ¬ w7 < 0 ∧ k1 + (1 + 1 + 1 + 1 + 1 + 1 + a_y_L) = w7 ∧ 0 ≤ w7 :=
  ⟨k1 + 1, k1 + 1 + 1, k1 + 1 + 1 + 1, k1 + 1 + 1 + 1 + 1, k1 + 1 + 1 + 1 + 1 + 1, k1 + 1 + 1 + 1 + 1 + 1 + 1, k1 + 1 + 1 + 1 + 1 + 1 + 1 + a_y_L, rfl, wrap_i64 (by omega) (by omega), rfl, wrap_i64 (by omega) (by omega), rfl, wrap_i64 (by omega) (by omega), rfl, wrap_i64 (by omega) (by omega), rfl, wrap_i64 (by omega) (by omega), rfl, wrap_i64 (by omega) (by omega), by omega, rfl, by omega, by omega, by omega, by omega, by omega⟩

def ctDeed : XDeed → Int
  | ⟨y_Op, y_Task, y_R, y_Id, ⟨y_Q_Kind, ⟨y_Q_P_Kind, y_Q_P_Col, y_Q_P_Op, ⟨y_Q_P_V_Ty, y_Q_P_V_N, y_Q_P_V_S⟩, y_Q_P_L⟩, y_Q_Col, y_Q_Out⟩, ⟨y_Res_Rows, y_Res_N, y_Res_Has, ⟨y_Res_V_Ty, y_Res_V_N, y_Res_V_S⟩⟩, y_Code, y_Stamp, y_Inv, y_Lin, y_Ret⟩ => 1 + 1 + ctVals y_R + 1 + 1 + 1 + 1 + 1 + 1 + 1 + 1 + ctPreds y_Q_P_L + 1 + ctInts y_Q_Out + ctRows y_Res_Rows + 1 + 1 + 1 + 1 + 1 + 1 + 1 + 1 + 1 + 1

def ctDeeds : List XDeed → Int
  | [] => 0
  | x :: l => ctDeed x + ctDeeds l

def mkDeed : Int → XDeed → XDeed
  | k, ⟨y_Op, y_Task, y_R, y_Id, ⟨y_Q_Kind, ⟨y_Q_P_Kind, y_Q_P_Col, y_Q_P_Op, ⟨y_Q_P_V_Ty, y_Q_P_V_N, y_Q_P_V_S⟩, y_Q_P_L⟩, y_Q_Col, y_Q_Out⟩, ⟨y_Res_Rows, y_Res_N, y_Res_Has, ⟨y_Res_V_Ty, y_Res_V_N, y_Res_V_S⟩⟩, y_Code, y_Stamp, y_Inv, y_Lin, y_Ret⟩ => ⟨k, k + 1, mkVals (k + 1 + 1) y_R, k + 1 + 1 + ctVals y_R, ⟨k + 1 + 1 + ctVals y_R + 1, ⟨k + 1 + 1 + ctVals y_R + 1 + 1, k + 1 + 1 + ctVals y_R + 1 + 1 + 1, k + 1 + 1 + ctVals y_R + 1 + 1 + 1 + 1, ⟨k + 1 + 1 + ctVals y_R + 1 + 1 + 1 + 1 + 1, k + 1 + 1 + ctVals y_R + 1 + 1 + 1 + 1 + 1 + 1, mtext (k + 1 + 1 + ctVals y_R + 1 + 1 + 1 + 1 + 1 + 1 + 1)⟩, mkPreds (k + 1 + 1 + ctVals y_R + 1 + 1 + 1 + 1 + 1 + 1 + 1 + 1) y_Q_P_L⟩, k + 1 + 1 + ctVals y_R + 1 + 1 + 1 + 1 + 1 + 1 + 1 + 1 + ctPreds y_Q_P_L, mkInts (k + 1 + 1 + ctVals y_R + 1 + 1 + 1 + 1 + 1 + 1 + 1 + 1 + ctPreds y_Q_P_L + 1) y_Q_Out⟩, ⟨mkRows (k + 1 + 1 + ctVals y_R + 1 + 1 + 1 + 1 + 1 + 1 + 1 + 1 + ctPreds y_Q_P_L + 1 + ctInts y_Q_Out) y_Res_Rows, k + 1 + 1 + ctVals y_R + 1 + 1 + 1 + 1 + 1 + 1 + 1 + 1 + ctPreds y_Q_P_L + 1 + ctInts y_Q_Out + ctRows y_Res_Rows, ((k + 1 + 1 + ctVals y_R + 1 + 1 + 1 + 1 + 1 + 1 + 1 + 1 + ctPreds y_Q_P_L + 1 + ctInts y_Q_Out + ctRows y_Res_Rows + 1).tmod 3 == 0), ⟨k + 1 + 1 + ctVals y_R + 1 + 1 + 1 + 1 + 1 + 1 + 1 + 1 + ctPreds y_Q_P_L + 1 + ctInts y_Q_Out + ctRows y_Res_Rows + 1 + 1, k + 1 + 1 + ctVals y_R + 1 + 1 + 1 + 1 + 1 + 1 + 1 + 1 + ctPreds y_Q_P_L + 1 + ctInts y_Q_Out + ctRows y_Res_Rows + 1 + 1 + 1, mtext (k + 1 + 1 + ctVals y_R + 1 + 1 + 1 + 1 + 1 + 1 + 1 + 1 + ctPreds y_Q_P_L + 1 + ctInts y_Q_Out + ctRows y_Res_Rows + 1 + 1 + 1 + 1)⟩⟩, k + 1 + 1 + ctVals y_R + 1 + 1 + 1 + 1 + 1 + 1 + 1 + 1 + ctPreds y_Q_P_L + 1 + ctInts y_Q_Out + ctRows y_Res_Rows + 1 + 1 + 1 + 1 + 1, k + 1 + 1 + ctVals y_R + 1 + 1 + 1 + 1 + 1 + 1 + 1 + 1 + ctPreds y_Q_P_L + 1 + ctInts y_Q_Out + ctRows y_Res_Rows + 1 + 1 + 1 + 1 + 1 + 1, k + 1 + 1 + ctVals y_R + 1 + 1 + 1 + 1 + 1 + 1 + 1 + 1 + ctPreds y_Q_P_L + 1 + ctInts y_Q_Out + ctRows y_Res_Rows + 1 + 1 + 1 + 1 + 1 + 1 + 1, k + 1 + 1 + ctVals y_R + 1 + 1 + 1 + 1 + 1 + 1 + 1 + 1 + ctPreds y_Q_P_L + 1 + ctInts y_Q_Out + ctRows y_Res_Rows + 1 + 1 + 1 + 1 + 1 + 1 + 1 + 1, k + 1 + 1 + ctVals y_R + 1 + 1 + 1 + 1 + 1 + 1 + 1 + 1 + ctPreds y_Q_P_L + 1 + ctInts y_Q_Out + ctRows y_Res_Rows + 1 + 1 + 1 + 1 + 1 + 1 + 1 + 1 + 1⟩

def mkDeeds : Int → List XDeed → List XDeed
  | _, [] => []
  | k, x :: l => mkDeed k x :: mkDeeds (k + ctDeed x) l

theorem ctDeed_pos : ∀ x : XDeed, 1 ≤ ctDeed x
  | ⟨y_Op, y_Task, y_R, y_Id, ⟨y_Q_Kind, ⟨y_Q_P_Kind, y_Q_P_Col, y_Q_P_Op, ⟨y_Q_P_V_Ty, y_Q_P_V_N, y_Q_P_V_S⟩, y_Q_P_L⟩, y_Q_Col, y_Q_Out⟩, ⟨y_Res_Rows, y_Res_N, y_Res_Has, ⟨y_Res_V_Ty, y_Res_V_N, y_Res_V_S⟩⟩, y_Code, y_Stamp, y_Inv, y_Lin, y_Ret⟩ => by have h_y_R := ctVals_nn y_R; have h_y_Q_P_L := ctPreds_nn y_Q_P_L; have h_y_Q_Out := ctInts_nn y_Q_Out; have h_y_Res_Rows := ctRows_nn y_Res_Rows; simp only [ctDeed]; omega

theorem ctDeeds_len : ∀ l : List XDeed, (l.length : Int) ≤ ctDeeds l
  | [] => by simp [ctDeeds]
  | x :: l => by have h1 := ctDeed_pos x; have h2 := ctDeeds_len l; simp only [ctDeeds, List.length_cons]; omega

theorem ctDeeds_nn (l : List XDeed) : 0 ≤ ctDeeds l := by have := ctDeeds_len l; omega

@[simp] theorem mkDeeds_len : ∀ (k : Int) (l : List XDeed), (mkDeeds k l).length = l.length
  | _, [] => by simp [mkDeeds]
  | k, x :: l => by simp [mkDeeds, mkDeeds_len]

theorem chainDeed (k1 a_y_R a_y_Q_P_L a_y_Q_Out a_y_Res_Rows : Int) (h0 : 0 ≤ k1) (h_y_R : 0 ≤ a_y_R) (h_y_Q_P_L : 0 ≤ a_y_Q_P_L) (h_y_Q_Out : 0 ≤ a_y_Q_Out) (h_y_Res_Rows : 0 ≤ a_y_Res_Rows) (hB : k1 + (1 + 1 + a_y_R + 1 + 1 + 1 + 1 + 1 + 1 + 1 + 1 + a_y_Q_P_L + 1 + a_y_Q_Out + a_y_Res_Rows + 1 + 1 + 1 + 1 + 1 + 1 + 1 + 1 + 1 + 1) ≤ 4611686018427387904) :
    ∃ w1 w2 w3 w4 w5 w6 w7 w8 w9 w10 w11 w12 w13 w14 w15 w16 w17 w18 w19 w20 w21 w22 w23 w24 w25 : Int, w1 = k1 + 1 ∧ IntKind.wrap .i64 (k1 + 1) = w1 ∧ w2 = w1 + 1 ∧ IntKind.wrap .i64 (w1 + 1) = w2 ∧ w3 = w2 + a_y_R ∧ 0 ≤ w2 ∧ w3 ≤ 4611686018427387904 ∧ ¬ w3 < 0 ∧ w4 = w3 + 1 ∧ IntKind.wrap .i64 (w3 + 1) = w4 ∧ w5 = w4 + 1 ∧ IntKind.wrap .i64 (w4 + 1) = w5 ∧ w6 = w5 + 1 ∧ IntKind.wrap .i64 (w5 + 1) = w6 ∧ w7 = w6 + 1 ∧ IntKind.wrap .i64 (w6 + 1) = w7 ∧ w8 = w7 + 1 ∧ IntKind.wrap .i64 (w7 + 1) = w8 ∧ w9 = w8 + 1 ∧ IntKind.wrap .i64 (w8 + 1) = w9 ∧ w10 = w9 + 1 ∧ IntKind.wrap .i64 (w9 + 1) = w10 ∧ w11 = w10 + 1 ∧ IntKind.wrap .i64 (w10 + 1) = w11 ∧ w10 ≤ 4611686018427387904 ∧ w12 = w11 + a_y_Q_P_L ∧ 0 ≤ w11 ∧ w12 ≤ 4611686018427387904 ∧ ¬ w12 < 0 ∧ w13 = w12 + 1 ∧ IntKind.wrap .i64 (w12 + 1) = w13 ∧ w14 = w13 + a_y_Q_Out ∧ 0 ≤ w13 ∧ w14 ≤ 4611686018427387904 ∧ ¬ w14 < 0 ∧ w15 = w14 + a_y_Res_Rows ∧ 0 ≤ w14 ∧ w15 ≤ 4611686018427387904 ∧ ¬ w15 < 0 ∧ w16 = w15 + 1 ∧ IntKind.wrap .i64 (w15 + 1) = w16 ∧ w17 = w16 + 1 ∧ IntKind.wrap .i64 (w16 + 1) = w17 ∧ w18 = w17 + 1 ∧ IntKind.wrap .i64 (w17 + 1) = w18 ∧ w19 = w18 + 1 ∧ IntKind.wrap .i64 (w18 + 1) = w19 ∧ w20 = w19 + 1 ∧ IntKind.wrap .i64 (w19 + 1) = w20 ∧ w19 ≤ 4611686018427387904 ∧ w21 = w20 + 1 ∧ IntKind.wrap .i64 (w20 + 1) = w21 ∧ w22 = w21 + 1 ∧ IntKind.wrap .i64 (w21 + 1) = w22 ∧ w23 = w22 + 1 ∧ IntKind.wrap .i64 (w22 + 1) = w23 ∧ w24 = w23 + 1 ∧ IntKind.wrap .i64 (w23 + 1) = w24 ∧ w25 = w24 + 1 ∧ IntKind.wrap .i64 (w24 + 1) = w25 ∧ k1 + (1 + 1 + a_y_R + 1 + 1 + 1 + 1 + 1 + 1 + 1 + 1 + a_y_Q_P_L + 1 + a_y_Q_Out + a_y_Res_Rows + 1 + 1 + 1 + 1 + 1 + 1 + 1 + 1 + 1 + 1) = w25 ∧ 0 ≤ w25 :=
  ⟨k1 + 1, k1 + 1 + 1, k1 + 1 + 1 + a_y_R, k1 + 1 + 1 + a_y_R + 1, k1 + 1 + 1 + a_y_R + 1 + 1, k1 + 1 + 1 + a_y_R + 1 + 1 + 1, k1 + 1 + 1 + a_y_R + 1 + 1 + 1 + 1, k1 + 1 + 1 + a_y_R + 1 + 1 + 1 + 1 + 1, k1 + 1 + 1 + a_y_R + 1 + 1 + 1 + 1 + 1 + 1, k1 + 1 + 1 + a_y_R + 1 + 1 + 1 + 1 + 1 + 1 + 1, k1 + 1 + 1 + a_y_R + 1 + 1 + 1 + 1 + 1 + 1 + 1 + 1, k1 + 1 + 1 + a_y_R + 1 + 1 + 1 + 1 + 1 + 1 + 1 + 1 + a_y_Q_P_L, k1 + 1 + 1 + a_y_R + 1 + 1 + 1 + 1 + 1 + 1 + 1 + 1 + a_y_Q_P_L + 1, k1 + 1 + 1 + a_y_R + 1 + 1 + 1 + 1 + 1 + 1 + 1 + 1 + a_y_Q_P_L + 1 + a_y_Q_Out, k1 + 1 + 1 + a_y_R + 1 + 1 + 1 + 1 + 1 + 1 + 1 + 1 + a_y_Q_P_L + 1 + a_y_Q_Out + a_y_Res_Rows, k1 + 1 + 1 + a_y_R + 1 + 1 + 1 + 1 + 1 + 1 + 1 + 1 + a_y_Q_P_L + 1 + a_y_Q_Out + a_y_Res_Rows + 1, k1 + 1 + 1 + a_y_R + 1 + 1 + 1 + 1 + 1 + 1 + 1 + 1 + a_y_Q_P_L + 1 + a_y_Q_Out + a_y_Res_Rows + 1 + 1, k1 + 1 + 1 + a_y_R + 1 + 1 + 1 + 1 + 1 + 1 + 1 + 1 + a_y_Q_P_L + 1 + a_y_Q_Out + a_y_Res_Rows + 1 + 1 + 1, k1 + 1 + 1 + a_y_R + 1 + 1 + 1 + 1 + 1 + 1 + 1 + 1 + a_y_Q_P_L + 1 + a_y_Q_Out + a_y_Res_Rows + 1 + 1 + 1 + 1, k1 + 1 + 1 + a_y_R + 1 + 1 + 1 + 1 + 1 + 1 + 1 + 1 + a_y_Q_P_L + 1 + a_y_Q_Out + a_y_Res_Rows + 1 + 1 + 1 + 1 + 1, k1 + 1 + 1 + a_y_R + 1 + 1 + 1 + 1 + 1 + 1 + 1 + 1 + a_y_Q_P_L + 1 + a_y_Q_Out + a_y_Res_Rows + 1 + 1 + 1 + 1 + 1 + 1, k1 + 1 + 1 + a_y_R + 1 + 1 + 1 + 1 + 1 + 1 + 1 + 1 + a_y_Q_P_L + 1 + a_y_Q_Out + a_y_Res_Rows + 1 + 1 + 1 + 1 + 1 + 1 + 1, k1 + 1 + 1 + a_y_R + 1 + 1 + 1 + 1 + 1 + 1 + 1 + 1 + a_y_Q_P_L + 1 + a_y_Q_Out + a_y_Res_Rows + 1 + 1 + 1 + 1 + 1 + 1 + 1 + 1, k1 + 1 + 1 + a_y_R + 1 + 1 + 1 + 1 + 1 + 1 + 1 + 1 + a_y_Q_P_L + 1 + a_y_Q_Out + a_y_Res_Rows + 1 + 1 + 1 + 1 + 1 + 1 + 1 + 1 + 1, k1 + 1 + 1 + a_y_R + 1 + 1 + 1 + 1 + 1 + 1 + 1 + 1 + a_y_Q_P_L + 1 + a_y_Q_Out + a_y_Res_Rows + 1 + 1 + 1 + 1 + 1 + 1 + 1 + 1 + 1 + 1, rfl, wrap_i64 (by omega) (by omega), rfl, wrap_i64 (by omega) (by omega), rfl, by omega, by omega, by omega, rfl, wrap_i64 (by omega) (by omega), rfl, wrap_i64 (by omega) (by omega), rfl, wrap_i64 (by omega) (by omega), rfl, wrap_i64 (by omega) (by omega), rfl, wrap_i64 (by omega) (by omega), rfl, wrap_i64 (by omega) (by omega), rfl, wrap_i64 (by omega) (by omega), rfl, wrap_i64 (by omega) (by omega), by omega, rfl, by omega, by omega, by omega, rfl, wrap_i64 (by omega) (by omega), rfl, by omega, by omega, by omega, rfl, by omega, by omega, by omega, rfl, wrap_i64 (by omega) (by omega), rfl, wrap_i64 (by omega) (by omega), rfl, wrap_i64 (by omega) (by omega), rfl, wrap_i64 (by omega) (by omega), rfl, wrap_i64 (by omega) (by omega), by omega, rfl, wrap_i64 (by omega) (by omega), rfl, wrap_i64 (by omega) (by omega), rfl, wrap_i64 (by omega) (by omega), rfl, wrap_i64 (by omega) (by omega), rfl, wrap_i64 (by omega) (by omega), by omega, by omega⟩

def MarkPreds (l : List XPred) : Prop := ∀ (k : Int), 0 ≤ k → k + ctPreds l ≤ 4611686018427387904 → Gw TT 191 [.one (.own (.sl 7 (l.map XPred.e))), vi k] = some (vi (k + ctPreds l), [(0, 0, .own (.sl 7 ((mkPreds k l).map XPred.e)))])

theorem MarkPreds_of (l : List XPred) (IH : ∀ y ∈ l, MarkPreds y.L) : MarkPreds l := by
  intro k h0 hc
  refine Gw_of (F := pf191) rfl rfl ?_
  show Wp _ pb191 _ _
  unfold pb191
  generalize hM : mkPreds k l = M
  have hlen := ctPreds_len l
  repeat' (first
    | with_reducible (first | refine wp_seq ?_ | refine wp_blk ?_ | refine wp_skip ?_ | refine wp_exit ?_ | refine wp_ret ?_ | refine seqQ_norm ?_ | refine seqQ_ret ?_ | refine seqQ_exit ?_ | refine blkQ_norm ?_ | refine blkQ_ret ?_ | refine blkQ_exit ?_ | refine loopQ_norm ?_ | refine loopQ_exit ?_ | refine loopQ_ret ?_ | refine endQ_ret ?_ | refine endQ_norm ?_ | refine endE_ret ?_ | refine endE_norm ?_ | refine endI_ret ?_ | refine endI_norm ?_)
    | (with_reducible refine wp_regK fun K hK => ?_
       simp
       repeat' (with_reducible first | refine hK _ ?_ | (refine psel ?_ ?_ <;> (intro hc; (try rw [Decidable.not_not] at hc); first | (exfalso; omega) | (try simp [hc]))))
       all_goals (clear hK; clear K))
    | (with_reducible refine wp_condE ?_
       refine ⟨_, rfl, ?_, ?_⟩ <;> (intro hc; (try simp at hc); (all_goals first | (exfalso; omega) | skip))))
  · refine wp_loopI (σ := List XPred × List XPred × Int) (fun s => [(0, AV.pl 0 0 [], some (Rt.vir [C.own (D.sl 7 (s.1.map XPred.e ++ s.2.1.map XPred.e))])), (1, AV.v false (di s.2.2), none), (5, AV.v false (di ((s.1.length : Nat) : Int)), none)]) (fun s => (∃ q, l = q ++ s.2.1) ∧ M = s.1 ++ mkPreds s.2.2 s.2.1 ∧ s.2.2 + ctPreds s.2.1 = k + ctPreds l ∧ s.1.length + s.2.1.length = l.length ∧ 0 ≤ s.2.2) (fun s => s.2.1.length) ([], l, k) (by simp) ⟨⟨[], rfl⟩, hM.symm, rfl, by simp, h0⟩ ?_
    rintro ⟨pre, rest, k1⟩ ⟨⟨q, hM2⟩, h1, h2, h3, h4⟩
    simp only at hM2 h1 h2 h3 h4
    rcases rest with _ | ⟨⟨y_Kind, y_Col, y_Op, ⟨y_V_Ty, y_V_N, y_V_S⟩, y_L⟩, rest⟩
    · unfold pl191_0
      simp only [mkPreds, ctPreds, List.append_nil, Int.add_zero] at h1 h2
      subst h1
      repeat' (first
        | with_reducible (first | refine wp_seq ?_ | refine wp_blk ?_ | refine wp_skip ?_ | refine wp_exit ?_ | refine wp_ret ?_ | refine seqQ_norm ?_ | refine seqQ_ret ?_ | refine seqQ_exit ?_ | refine blkQ_norm ?_ | refine blkQ_ret ?_ | refine blkQ_exit ?_ | refine loopQ_norm ?_ | refine loopQ_exit ?_ | refine loopQ_ret ?_ | refine endQ_ret ?_ | refine endQ_norm ?_ | refine endE_ret ?_ | refine endE_norm ?_ | refine endI_ret ?_ | refine endI_norm ?_)
        | (with_reducible refine wp_regK fun K hK => ?_
           simp
           repeat' (with_reducible first | refine hK _ ?_ | (refine psel ?_ ?_ <;> (intro hc; (try rw [Decidable.not_not] at hc); first | (exfalso; omega) | (try simp [hc]))))
           all_goals (clear hK; clear K))
        | (with_reducible refine wp_condE ?_
           refine ⟨_, rfl, ?_, ?_⟩ <;> (intro hc; (try simp at hc); (all_goals first | (exfalso; omega) | skip))))
      all_goals simp [pf191, h2]
    · unfold pl191_0
      simp only [mkPreds, ctPreds, mkPred, ctPred, List.length_cons] at h1 h2 h3
      have hnr := ctPreds_nn rest
      have hw : IntKind.wrap .i64 ((pre.length : Int) + 1) = (pre.length : Int) + 1 := wrap_i64 (by omega) (by omega)
      have hlt : (pre.length : Int) < (pre.length : Int) + ((rest.length : Int) + 1) := by omega
      have hl2 : (pre ++ [mkPred k1 ⟨y_Kind, y_Col, y_Op, ⟨y_V_Ty, y_V_N, y_V_S⟩, y_L⟩]).length + rest.length = l.length := by simp only [List.length_append, List.length_cons, List.length_nil]; omega
      have hB2 : k1 + (1 + 1 + 1 + 1 + 1 + 1 + ctPreds y_L) + ctPreds rest = k + ctPreds l := by omega
      obtain ⟨w1, w2, w3, w4, w5, w6, w7, hv0, hw0, hv1, hw1, hv2, hw2, hv3, hw3, hv4, hw4, hv5, hw5, ht5, hv6, hz6, hy6, hg6, hE, hZ⟩ := chainPred k1 (ctPreds y_L) h4 (ctPreds_nn y_L) (by omega)
      rw [hE] at h1 hB2
      try simp only [← hv0, ← hv1, ← hv2, ← hv3, ← hv4, ← hv5, ← hv6] at h1
      have ih := IH ⟨y_Kind, y_Col, y_Op, ⟨y_V_Ty, y_V_N, y_V_S⟩, y_L⟩ (by simp [hM2]) w6 hz6 (by simp only; rw [← hv6]; exact hy6)
      simp only [← hv6] at ih
      subst h1
      repeat' (first
        | with_reducible (first | refine wp_seq ?_ | refine wp_blk ?_ | refine wp_skip ?_ | refine wp_exit ?_ | refine wp_ret ?_ | refine seqQ_norm ?_ | refine seqQ_ret ?_ | refine seqQ_exit ?_ | refine blkQ_norm ?_ | refine blkQ_ret ?_ | refine blkQ_exit ?_ | refine loopQ_norm ?_ | refine loopQ_exit ?_ | refine loopQ_ret ?_ | refine endQ_ret ?_ | refine endQ_norm ?_ | refine endE_ret ?_ | refine endE_norm ?_ | refine endI_ret ?_ | refine endI_norm ?_)
        | (with_reducible refine wp_regK fun K hK => ?_
           simp[hw0, hw1, hw2, hw3, hw4, hw5, ht5, hz6, hy6, hg6, ← hv6, hw, hlt, ih]
           repeat' (with_reducible first | refine hK _ ?_ | (refine psel ?_ ?_ <;> (intro hc; (try rw [Decidable.not_not] at hc); first | (try simp [hc, hw0, hw1, hw2, hw3, hw4, hw5, ht5, hz6, hy6, hg6, ← hv6, hw, hlt, ih]))))
           all_goals (clear hK; clear K))
        | (with_reducible refine wp_condE ?_
           refine ⟨_, rfl, ?_, ?_⟩ <;> (intro hc; (try simp at hc); skip)))
      all_goals first | exact ⟨(pre ++ [mkPred k1 ⟨y_Kind, y_Col, y_Op, ⟨y_V_Ty, y_V_N, y_V_S⟩, y_L⟩], rest, w7), by simp [mkPred, hv0, hv1, hv2, hv3, hv4, hv5, hv6], ⟨⟨q ++ [⟨y_Kind, y_Col, y_Op, ⟨y_V_Ty, y_V_N, y_V_S⟩, y_L⟩], by simp [hM2]⟩, by simp [mkPred, hv0, hv1, hv2, hv3, hv4, hv5, hv6], hB2, hl2, hZ⟩, by simp⟩ | (exfalso; simp_all; done)

theorem MarkPreds_all (l : List XPred) : MarkPreds l :=
  MarkPreds_of l fun y hy => MarkPreds_all y.L
termination_by SizeOf.sizeOf l
decreasing_by
  have h1 := List.sizeOf_lt_of_mem hy
  have h2 : SizeOf.sizeOf y.L < SizeOf.sizeOf y := by cases y; simp; omega
  omega

@[simp] theorem t191 (l : List XPred) (k : Int) (h0 : 0 ≤ k) (hc : k + ctPreds l ≤ 4611686018427387904) : Gw TT 191 [.one (.own (.sl 7 (l.map XPred.e))), vi k] = some (vi (k + ctPreds l), [(0, 0, .own (.sl 7 ((mkPreds k l).map XPred.e)))]) := MarkPreds_all l k h0 hc

@[simp] theorem t188 (l : List XDeed) (k : Int) (h0 : 0 ≤ k) (hc : k + ctDeeds l ≤ 4611686018427387904) : Gw TT 188 [.one (.own (.sl 25 (l.map XDeed.e))), vi k] = some (vi (k + ctDeeds l), [(0, 0, .own (.sl 25 ((mkDeeds k l).map XDeed.e)))]) := by
  refine Gw_of (F := pf188) rfl rfl ?_
  show Wp _ pb188 _ _
  unfold pb188
  generalize hM : mkDeeds k l = M
  have hlen := ctDeeds_len l
  repeat' (first
    | with_reducible (first | refine wp_seq ?_ | refine wp_blk ?_ | refine wp_skip ?_ | refine wp_exit ?_ | refine wp_ret ?_ | refine seqQ_norm ?_ | refine seqQ_ret ?_ | refine seqQ_exit ?_ | refine blkQ_norm ?_ | refine blkQ_ret ?_ | refine blkQ_exit ?_ | refine loopQ_norm ?_ | refine loopQ_exit ?_ | refine loopQ_ret ?_ | refine endQ_ret ?_ | refine endQ_norm ?_ | refine endE_ret ?_ | refine endE_norm ?_ | refine endI_ret ?_ | refine endI_norm ?_)
    | (with_reducible refine wp_regK fun K hK => ?_
       simp
       repeat' (with_reducible first | refine hK _ ?_ | (refine psel ?_ ?_ <;> (intro hc; (try rw [Decidable.not_not] at hc); first | (exfalso; omega) | (try simp [hc]))))
       all_goals (clear hK; clear K))
    | (with_reducible refine wp_condE ?_
       refine ⟨_, rfl, ?_, ?_⟩ <;> (intro hc; (try simp at hc); (all_goals first | (exfalso; omega) | skip))))
  · refine wp_loopI (σ := List XDeed × List XDeed × Int) (fun s => [(0, AV.pl 0 0 [], some (Rt.vir [C.own (D.sl 25 (s.1.map XDeed.e ++ s.2.1.map XDeed.e))])), (1, AV.v false (di s.2.2), none), (5, AV.v false (di ((s.1.length : Nat) : Int)), none)]) (fun s => M = s.1 ++ mkDeeds s.2.2 s.2.1 ∧ s.2.2 + ctDeeds s.2.1 = k + ctDeeds l ∧ s.1.length + s.2.1.length = l.length ∧ 0 ≤ s.2.2) (fun s => s.2.1.length) ([], l, k) (by simp) ⟨hM.symm, rfl, by simp, h0⟩ ?_
    rintro ⟨pre, rest, k1⟩ ⟨h1, h2, h3, h4⟩
    simp only at h1 h2 h3 h4
    rcases rest with _ | ⟨⟨y_Op, y_Task, y_R, y_Id, ⟨y_Q_Kind, ⟨y_Q_P_Kind, y_Q_P_Col, y_Q_P_Op, ⟨y_Q_P_V_Ty, y_Q_P_V_N, y_Q_P_V_S⟩, y_Q_P_L⟩, y_Q_Col, y_Q_Out⟩, ⟨y_Res_Rows, y_Res_N, y_Res_Has, ⟨y_Res_V_Ty, y_Res_V_N, y_Res_V_S⟩⟩, y_Code, y_Stamp, y_Inv, y_Lin, y_Ret⟩, rest⟩
    · unfold pl188_0
      simp only [mkDeeds, ctDeeds, List.append_nil, Int.add_zero] at h1 h2
      subst h1
      repeat' (first
        | with_reducible (first | refine wp_seq ?_ | refine wp_blk ?_ | refine wp_skip ?_ | refine wp_exit ?_ | refine wp_ret ?_ | refine seqQ_norm ?_ | refine seqQ_ret ?_ | refine seqQ_exit ?_ | refine blkQ_norm ?_ | refine blkQ_ret ?_ | refine blkQ_exit ?_ | refine loopQ_norm ?_ | refine loopQ_exit ?_ | refine loopQ_ret ?_ | refine endQ_ret ?_ | refine endQ_norm ?_ | refine endE_ret ?_ | refine endE_norm ?_ | refine endI_ret ?_ | refine endI_norm ?_)
        | (with_reducible refine wp_regK fun K hK => ?_
           simp
           repeat' (with_reducible first | refine hK _ ?_ | (refine psel ?_ ?_ <;> (intro hc; (try rw [Decidable.not_not] at hc); first | (exfalso; omega) | (try simp [hc]))))
           all_goals (clear hK; clear K))
        | (with_reducible refine wp_condE ?_
           refine ⟨_, rfl, ?_, ?_⟩ <;> (intro hc; (try simp at hc); (all_goals first | (exfalso; omega) | skip))))
      all_goals simp [pf188, h2]
    · unfold pl188_0
      simp only [mkDeeds, ctDeeds, mkDeed, ctDeed, List.length_cons] at h1 h2 h3
      have hnr := ctDeeds_nn rest
      have hw : IntKind.wrap .i64 ((pre.length : Int) + 1) = (pre.length : Int) + 1 := wrap_i64 (by omega) (by omega)
      have hlt : (pre.length : Int) < (pre.length : Int) + ((rest.length : Int) + 1) := by omega
      have hl2 : (pre ++ [mkDeed k1 ⟨y_Op, y_Task, y_R, y_Id, ⟨y_Q_Kind, ⟨y_Q_P_Kind, y_Q_P_Col, y_Q_P_Op, ⟨y_Q_P_V_Ty, y_Q_P_V_N, y_Q_P_V_S⟩, y_Q_P_L⟩, y_Q_Col, y_Q_Out⟩, ⟨y_Res_Rows, y_Res_N, y_Res_Has, ⟨y_Res_V_Ty, y_Res_V_N, y_Res_V_S⟩⟩, y_Code, y_Stamp, y_Inv, y_Lin, y_Ret⟩]).length + rest.length = l.length := by simp only [List.length_append, List.length_cons, List.length_nil]; omega
      have hB2 : k1 + (1 + 1 + ctVals y_R + 1 + 1 + 1 + 1 + 1 + 1 + 1 + 1 + ctPreds y_Q_P_L + 1 + ctInts y_Q_Out + ctRows y_Res_Rows + 1 + 1 + 1 + 1 + 1 + 1 + 1 + 1 + 1 + 1) + ctDeeds rest = k + ctDeeds l := by omega
      obtain ⟨w1, w2, w3, w4, w5, w6, w7, w8, w9, w10, w11, w12, w13, w14, w15, w16, w17, w18, w19, w20, w21, w22, w23, w24, w25, hv0, hw0, hv1, hw1, hv2, hz2, hy2, hg2, hv3, hw3, hv4, hw4, hv5, hw5, hv6, hw6, hv7, hw7, hv8, hw8, hv9, hw9, hv10, hw10, ht10, hv11, hz11, hy11, hg11, hv12, hw12, hv13, hz13, hy13, hg13, hv14, hz14, hy14, hg14, hv15, hw15, hv16, hw16, hv17, hw17, hv18, hw18, hv19, hw19, ht19, hv20, hw20, hv21, hw21, hv22, hw22, hv23, hw23, hv24, hw24, hE, hZ⟩ := chainDeed k1 (ctVals y_R) (ctPreds y_Q_P_L) (ctInts y_Q_Out) (ctRows y_Res_Rows) h4 (ctVals_nn y_R) (ctPreds_nn y_Q_P_L) (ctInts_nn y_Q_Out) (ctRows_nn y_Res_Rows) (by omega)
      rw [hE] at h1 hB2
      try simp only [← hv0, ← hv1, ← hv2, ← hv3, ← hv4, ← hv5, ← hv6, ← hv7, ← hv8, ← hv9, ← hv10, ← hv11, ← hv12, ← hv13, ← hv14, ← hv15, ← hv16, ← hv17, ← hv18, ← hv19, ← hv20, ← hv21, ← hv22, ← hv23, ← hv24] at h1
      subst h1
      repeat' (first
        | with_reducible (first | refine wp_seq ?_ | refine wp_blk ?_ | refine wp_skip ?_ | refine wp_exit ?_ | refine wp_ret ?_ | refine seqQ_norm ?_ | refine seqQ_ret ?_ | refine seqQ_exit ?_ | refine blkQ_norm ?_ | refine blkQ_ret ?_ | refine blkQ_exit ?_ | refine loopQ_norm ?_ | refine loopQ_exit ?_ | refine loopQ_ret ?_ | refine endQ_ret ?_ | refine endQ_norm ?_ | refine endE_ret ?_ | refine endE_norm ?_ | refine endI_ret ?_ | refine endI_norm ?_)
        | (with_reducible refine wp_regK fun K hK => ?_
           simp[hw0, hw1, hz2, hy2, hg2, ← hv2, hw3, hw4, hw5, hw6, hw7, hw8, hw9, hw10, ht10, hz11, hy11, hg11, ← hv11, hw12, hz13, hy13, hg13, ← hv13, hz14, hy14, hg14, ← hv14, hw15, hw16, hw17, hw18, hw19, ht19, hw20, hw21, hw22, hw23, hw24, hw, hlt]
           repeat' (with_reducible first | refine hK _ ?_ | (refine psel ?_ ?_ <;> (intro hc; (try rw [Decidable.not_not] at hc); first | (try simp [hc, hw0, hw1, hz2, hy2, hg2, ← hv2, hw3, hw4, hw5, hw6, hw7, hw8, hw9, hw10, ht10, hz11, hy11, hg11, ← hv11, hw12, hz13, hy13, hg13, ← hv13, hz14, hy14, hg14, ← hv14, hw15, hw16, hw17, hw18, hw19, ht19, hw20, hw21, hw22, hw23, hw24, hw, hlt]))))
           all_goals (clear hK; clear K))
        | (with_reducible refine wp_condE ?_
           refine ⟨_, rfl, ?_, ?_⟩ <;> (intro hc; (try simp at hc); skip)))
      all_goals first | exact ⟨(pre ++ [mkDeed k1 ⟨y_Op, y_Task, y_R, y_Id, ⟨y_Q_Kind, ⟨y_Q_P_Kind, y_Q_P_Col, y_Q_P_Op, ⟨y_Q_P_V_Ty, y_Q_P_V_N, y_Q_P_V_S⟩, y_Q_P_L⟩, y_Q_Col, y_Q_Out⟩, ⟨y_Res_Rows, y_Res_N, y_Res_Has, ⟨y_Res_V_Ty, y_Res_V_N, y_Res_V_S⟩⟩, y_Code, y_Stamp, y_Inv, y_Lin, y_Ret⟩], rest, w25), by simp [mkDeed, hv0, hv1, hv2, hv3, hv4, hv5, hv6, hv7, hv8, hv9, hv10, hv11, hv12, hv13, hv14, hv15, hv16, hv17, hv18, hv19, hv20, hv21, hv22, hv23, hv24], ⟨by simp [mkDeed, hv0, hv1, hv2, hv3, hv4, hv5, hv6, hv7, hv8, hv9, hv10, hv11, hv12, hv13, hv14, hv15, hv16, hv17, hv18, hv19, hv20, hv21, hv22, hv23, hv24], hB2, hl2, hZ⟩, by simp⟩ | (exfalso; simp_all; done)

theorem ctVals_app : ∀ (l : List XVal) (x : XVal), ctVals (l ++ [x]) = ctVals l + ctVal x
  | [], x => by simp [ctVals]
  | y :: l, x => by have := ctVals_app l x; simp only [List.cons_append, ctVals, this]; omega

theorem ctRows_app : ∀ (l : List XRow) (x : XRow), ctRows (l ++ [x]) = ctRows l + ctRow x
  | [], x => by simp [ctRows]
  | y :: l, x => by have := ctRows_app l x; simp only [List.cons_append, ctRows, this]; omega

theorem ctPreds_app : ∀ (l : List XPred) (x : XPred), ctPreds (l ++ [x]) = ctPreds l + ctPred x
  | [], x => by simp [ctPreds]
  | y :: l, x => by have := ctPreds_app l x; simp only [List.cons_append, ctPreds, this]; omega

theorem ctDeeds_app : ∀ (l : List XDeed) (x : XDeed), ctDeeds (l ++ [x]) = ctDeeds l + ctDeed x
  | [], x => by simp [ctDeeds]
  | y :: l, x => by have := ctDeeds_app l x; simp only [List.cons_append, ctDeeds, this]; omega

theorem t219b (k0 : Bool) (l : List Int) (left : Int) (h0 : 0 ≤ left) (h1 : left ≤ 1048576) (hl : l.length ≤ 9223372036854775807) :
    ∃ n, Gw TT 219 [.one (.ro k0 (.sl 1 (l.map ei))), vi left] = some (vi n, []) ∧ -1 ≤ n ∧ n ≤ left ∧ (0 ≤ n → ctInts l ≤ 31 * (left - n)) := by
  refine Gw_ofI (F := pf219) rfl rfl ?_
  show Wp _ pb219 _ _
  unfold pb219
  have g : IntKind.wrap .i64 (left - (l.length : Int)) = left - (l.length : Int) := wrap_i64 (by omega) (by omega)
  repeat' (first
    | with_reducible (first | refine wp_seq ?_ | refine wp_blk ?_ | refine wp_skip ?_ | refine wp_exit ?_ | refine wp_ret ?_ | refine seqQ_norm ?_ | refine seqQ_ret ?_ | refine seqQ_exit ?_ | refine blkQ_norm ?_ | refine blkQ_ret ?_ | refine blkQ_exit ?_ | refine loopQ_norm ?_ | refine loopQ_exit ?_ | refine loopQ_ret ?_ | refine endQ_ret ?_ | refine endQ_norm ?_ | refine endE_ret ?_ | refine endE_norm ?_ | refine endI_ret ?_ | refine endI_norm ?_)
    | (with_reducible refine wp_regK fun K hK => ?_
       simp[g]
       repeat' (with_reducible first | refine hK _ ?_ | (refine psel ?_ ?_ <;> (intro hc; (try rw [Decidable.not_not] at hc); first | (exfalso; omega) | (try simp [hc, g]))))
       all_goals (clear hK; clear K))
    | (with_reducible refine wp_condE ?_
       refine ⟨_, rfl, ?_, ?_⟩ <;> (intro hc; (try simp at hc); (all_goals first | (exfalso; omega) | skip))))
  · exact ⟨-1, by simp [pf219], by omega, by omega, fun h => absurd h (by omega)⟩
  · have hq := ctInts_le l
    exact ⟨left - (l.length : Int), by simp [pf219], by omega, by omega, fun _ => by omega⟩

theorem t231b (x_Ty : Int) (x_N : Int) (x_S : ByteArray) (left : Int) (h0 : 0 ≤ left) (h1 : left ≤ 1048576) (hok_x_S : x_S.size ≤ 9223372036854775807) :
    ∃ n, Gw TT 231 [.st [.ro false (di x_Ty), .ro false (di x_N), .ro false (.str x_S)], vi left] = some (vi n, []) ∧ -1 ≤ n ∧ n ≤ left ∧ (0 ≤ n → 0 ≤ 31 * (left - n)) := by
  refine Gw_ofI (F := pf231) rfl rfl ?_
  show Wp _ pb231 _ _
  unfold pb231
  have g1 : IntKind.wrap .i64 (left - (x_S.size : Int)) = left - (x_S.size : Int) := wrap_i64 (by omega) (by omega)
  repeat' (first
    | with_reducible (first | refine wp_seq ?_ | refine wp_blk ?_ | refine wp_skip ?_ | refine wp_exit ?_ | refine wp_ret ?_ | refine seqQ_norm ?_ | refine seqQ_ret ?_ | refine seqQ_exit ?_ | refine blkQ_norm ?_ | refine blkQ_ret ?_ | refine blkQ_exit ?_ | refine loopQ_norm ?_ | refine loopQ_exit ?_ | refine loopQ_ret ?_ | refine endQ_ret ?_ | refine endQ_norm ?_ | refine endE_ret ?_ | refine endE_norm ?_ | refine endI_ret ?_ | refine endI_norm ?_)
    | (with_reducible refine wp_regK fun K hK => ?_
       simp[g1]
       repeat' (with_reducible first | refine hK _ ?_ | (refine psel ?_ ?_ <;> (intro hc; (try rw [Decidable.not_not] at hc); first | (exfalso; omega) | (try simp [hc, g1]))))
       all_goals (clear hK; clear K))
    | (with_reducible refine wp_condE ?_
       refine ⟨_, rfl, ?_, ?_⟩ <;> (intro hc; (try simp at hc); (all_goals first | (exfalso; omega) | skip))))
  · exact ⟨-1, by simp [pf231], by omega, by omega, fun h => absurd h (by omega)⟩
  · exact ⟨left - (x_S.size : Int), by simp [pf231], by omega, by omega, fun _ => by omega⟩

theorem t232b (k0 : Bool) (l : List XVal) (left : Int) (h0 : 0 ≤ left) (h1 : left ≤ 1048576) (hl : l.length ≤ 9223372036854775807) (hok : XVal.oks l) :
    ∃ n, Gw TT 232 [.one (.ro k0 (.sl 3 (l.map XVal.e))), vi left] = some (vi n, []) ∧ -1 ≤ n ∧ n ≤ left ∧ (0 ≤ n → ctVals l ≤ 31 * (left - n)) := by
  refine Gw_ofI (F := pf232) rfl rfl ?_
  show Wp _ pb232 _ _
  unfold pb232
  have g : IntKind.wrap .i64 (left - (l.length : Int)) = left - (l.length : Int) := wrap_i64 (by omega) (by omega)
  repeat' (first
    | with_reducible (first | refine wp_seq ?_ | refine wp_blk ?_ | refine wp_skip ?_ | refine wp_exit ?_ | refine wp_ret ?_ | refine seqQ_norm ?_ | refine seqQ_ret ?_ | refine seqQ_exit ?_ | refine blkQ_norm ?_ | refine blkQ_ret ?_ | refine blkQ_exit ?_ | refine loopQ_norm ?_ | refine loopQ_exit ?_ | refine loopQ_ret ?_ | refine endQ_ret ?_ | refine endQ_norm ?_ | refine endE_ret ?_ | refine endE_norm ?_ | refine endI_ret ?_ | refine endI_norm ?_)
    | (with_reducible refine wp_regK fun K hK => ?_
       simp[g]
       repeat' (with_reducible first | refine hK _ ?_ | (refine psel ?_ ?_ <;> (intro hc; (try rw [Decidable.not_not] at hc); first | (exfalso; omega) | (try simp [hc, g]))))
       all_goals (clear hK; clear K))
    | (with_reducible refine wp_condE ?_
       refine ⟨_, rfl, ?_, ?_⟩ <;> (intro hc; (try simp at hc); (all_goals first | (exfalso; omega) | skip))))
  · exact ⟨-1, by simp [pf232], by omega, by omega, fun h => absurd h (by omega)⟩
  · refine wp_loopI (σ := List XVal × List XVal × Int) (fun s => [(0, AV.v k0 (D.sl 3 (List.map XVal.e l)), none), (1, AV.v false (di s.2.2), none), (5, AV.v false (di (s.1.length : Nat)), none)]) (fun s => l = s.1 ++ s.2.1 ∧ 0 ≤ s.2.2 ∧ s.2.2 ≤ left - (l.length : Int) ∧ ctVals s.1 ≤ 31 * (left - (l.length : Int) - s.2.2) + 3 * (s.1.length : Int)) (fun s => s.2.1.length) ([], l, left - (l.length : Int)) (by simp) ⟨rfl, by simp only; omega, by simp only; omega, by simp [ctVals]⟩ ?_
    rintro ⟨pre, rest, lf⟩ ⟨h2, h3, h4, h5⟩
    simp only at h2 h3 h4 h5
    subst h2
    simp only [List.length_append, List.length_cons] at hl h4 h5 g
    rcases rest with _ | ⟨⟨y_Ty, y_N, y_S⟩, rest⟩
    · unfold pl232_0
      repeat' (first
        | with_reducible (first | refine wp_seq ?_ | refine wp_blk ?_ | refine wp_skip ?_ | refine wp_exit ?_ | refine wp_ret ?_ | refine seqQ_norm ?_ | refine seqQ_ret ?_ | refine seqQ_exit ?_ | refine blkQ_norm ?_ | refine blkQ_ret ?_ | refine blkQ_exit ?_ | refine loopQ_norm ?_ | refine loopQ_exit ?_ | refine loopQ_ret ?_ | refine endQ_ret ?_ | refine endQ_norm ?_ | refine endE_ret ?_ | refine endE_norm ?_ | refine endI_ret ?_ | refine endI_norm ?_)
        | (with_reducible refine wp_regK fun K hK => ?_
           simp
           repeat' (with_reducible first | refine hK _ ?_ | (refine psel ?_ ?_ <;> (intro hc; (try rw [Decidable.not_not] at hc); first | (exfalso; omega) | (try simp [hc]))))
           all_goals (clear hK; clear K))
        | (with_reducible refine wp_condE ?_
           refine ⟨_, rfl, ?_, ?_⟩ <;> (intro hc; (try simp at hc); (all_goals first | (exfalso; omega) | skip))))
      simp only [List.length_nil] at h4 h5
      all_goals exact ⟨lf, by simp [pf232], by omega, by omega, fun _ => by simp only [List.append_nil]; omega⟩
    · unfold pl232_0
      simp only [List.length_cons] at hl h4 h5
      have hw : IntKind.wrap .i64 ((pre.length : Int) + 1) = (pre.length : Int) + 1 := wrap_i64 (by omega) (by omega)
      have hap := ctVals_app pre ⟨y_Ty, y_N, y_S⟩
      simp only [ctVal] at hap
      have hd := hok ⟨y_Ty, y_N, y_S⟩ (by simp)
      simp only [XVal.ok, and_assoc] at hd
      obtain ⟨hlo_y_Ty, hhi_y_Ty, hlo_y_N, hhi_y_N, hok_y_S⟩ := hd
      obtain ⟨n1, g1, a1, b1, s1⟩ := t231b y_Ty y_N y_S lf (by omega) (by omega) hok_y_S
      repeat' (first
        | with_reducible (first | refine wp_seq ?_ | refine wp_blk ?_ | refine wp_skip ?_ | refine wp_exit ?_ | refine wp_ret ?_ | refine seqQ_norm ?_ | refine seqQ_ret ?_ | refine seqQ_exit ?_ | refine blkQ_norm ?_ | refine blkQ_ret ?_ | refine blkQ_exit ?_ | refine loopQ_norm ?_ | refine loopQ_exit ?_ | refine loopQ_ret ?_ | refine endQ_ret ?_ | refine endQ_norm ?_ | refine endE_ret ?_ | refine endE_norm ?_ | refine endI_ret ?_ | refine endI_norm ?_)
        | (with_reducible refine wp_regK fun K hK => ?_
           simp[g1, hw]
           repeat' (with_reducible first | refine hK _ ?_ | (refine psel ?_ ?_ <;> (intro hc; (try rw [Decidable.not_not] at hc); first | (exfalso; omega) | (try simp [hc, g1, hw]))))
           all_goals (clear hK; clear K))
        | (with_reducible refine wp_condE ?_
           refine ⟨_, rfl, ?_, ?_⟩ <;> (intro hc; (try simp at hc); (all_goals first | (exfalso; omega) | skip))))
      · exact ⟨-1, by simp [pf232], by omega, by omega, fun h => absurd h (by omega)⟩
      · have hq := s1 (by omega)
        skip
        exact ⟨(pre ++ [⟨y_Ty, y_N, y_S⟩], rest, n1), by simp, ⟨by simp, by simp only; omega, by simp only [List.length_append, List.length_cons]; omega, by simp only [List.length_append, List.length_cons, List.length_nil]; omega⟩, by simp⟩

theorem t225b (k0 : Bool) (x_Id : Int) (x_L : List XVal) (left : Int) (h0 : 0 ≤ left) (h1 : left ≤ 1048576) (hok_x_L : x_L.length ≤ 9223372036854775807) (hoks_x_L : XVal.oks x_L) :
    ∃ n, Gw TT 225 [.st [.ro false (di x_Id), .ro k0 (.sl 3 (x_L.map XVal.e))], vi left] = some (vi n, []) ∧ -1 ≤ n ∧ n ≤ left ∧ (0 ≤ n → ctVals x_L ≤ 31 * (left - n)) := by
  refine Gw_ofI (F := pf225) rfl rfl ?_
  show Wp _ pb225 _ _
  unfold pb225
  have hn_x_L := ctVals_nn x_L
  obtain ⟨n1, g1, a1, b1, s1⟩ := t232b k0 x_L left (by omega) (by omega) hok_x_L hoks_x_L
  repeat' (first
    | with_reducible (first | refine wp_seq ?_ | refine wp_blk ?_ | refine wp_skip ?_ | refine wp_exit ?_ | refine wp_ret ?_ | refine seqQ_norm ?_ | refine seqQ_ret ?_ | refine seqQ_exit ?_ | refine blkQ_norm ?_ | refine blkQ_ret ?_ | refine blkQ_exit ?_ | refine loopQ_norm ?_ | refine loopQ_exit ?_ | refine loopQ_ret ?_ | refine endQ_ret ?_ | refine endQ_norm ?_ | refine endE_ret ?_ | refine endE_norm ?_ | refine endI_ret ?_ | refine endI_norm ?_)
    | (with_reducible refine wp_regK fun K hK => ?_
       simp[g1]
       repeat' (with_reducible first | refine hK _ ?_ | (refine psel ?_ ?_ <;> (intro hc; (try rw [Decidable.not_not] at hc); first | (exfalso; omega) | (try simp [hc, g1]))))
       all_goals (clear hK; clear K))
    | (with_reducible refine wp_condE ?_
       refine ⟨_, rfl, ?_, ?_⟩ <;> (intro hc; (try simp at hc); (all_goals first | (exfalso; omega) | skip))))
  · exact ⟨-1, by simp [pf225], by omega, by omega, fun h => absurd h (by omega)⟩
  have q1 := s1 (by omega)
  · exact ⟨n1, by simp [pf225], by omega, by omega, fun _ => by omega⟩

theorem t226b (k0 : Bool) (l : List XRow) (left : Int) (h0 : 0 ≤ left) (h1 : left ≤ 1048576) (hl : l.length ≤ 9223372036854775807) (hok : XRow.oks l) :
    ∃ n, Gw TT 226 [.one (.ro k0 (.sl 2 (l.map XRow.e))), vi left] = some (vi n, []) ∧ -1 ≤ n ∧ n ≤ left ∧ (0 ≤ n → ctRows l ≤ 31 * (left - n)) := by
  refine Gw_ofI (F := pf226) rfl rfl ?_
  show Wp _ pb226 _ _
  unfold pb226
  have g : IntKind.wrap .i64 (left - (l.length : Int)) = left - (l.length : Int) := wrap_i64 (by omega) (by omega)
  repeat' (first
    | with_reducible (first | refine wp_seq ?_ | refine wp_blk ?_ | refine wp_skip ?_ | refine wp_exit ?_ | refine wp_ret ?_ | refine seqQ_norm ?_ | refine seqQ_ret ?_ | refine seqQ_exit ?_ | refine blkQ_norm ?_ | refine blkQ_ret ?_ | refine blkQ_exit ?_ | refine loopQ_norm ?_ | refine loopQ_exit ?_ | refine loopQ_ret ?_ | refine endQ_ret ?_ | refine endQ_norm ?_ | refine endE_ret ?_ | refine endE_norm ?_ | refine endI_ret ?_ | refine endI_norm ?_)
    | (with_reducible refine wp_regK fun K hK => ?_
       simp[g]
       repeat' (with_reducible first | refine hK _ ?_ | (refine psel ?_ ?_ <;> (intro hc; (try rw [Decidable.not_not] at hc); first | (exfalso; omega) | (try simp [hc, g]))))
       all_goals (clear hK; clear K))
    | (with_reducible refine wp_condE ?_
       refine ⟨_, rfl, ?_, ?_⟩ <;> (intro hc; (try simp at hc); (all_goals first | (exfalso; omega) | skip))))
  · exact ⟨-1, by simp [pf226], by omega, by omega, fun h => absurd h (by omega)⟩
  · refine wp_loopI (σ := List XRow × List XRow × Int) (fun s => [(0, AV.v k0 (D.sl 2 (List.map XRow.e l)), none), (1, AV.v false (di s.2.2), none), (5, AV.v false (di (s.1.length : Nat)), none)]) (fun s => l = s.1 ++ s.2.1 ∧ 0 ≤ s.2.2 ∧ s.2.2 ≤ left - (l.length : Int) ∧ ctRows s.1 ≤ 31 * (left - (l.length : Int) - s.2.2) + 1 * (s.1.length : Int)) (fun s => s.2.1.length) ([], l, left - (l.length : Int)) (by simp) ⟨rfl, by simp only; omega, by simp only; omega, by simp [ctRows]⟩ ?_
    rintro ⟨pre, rest, lf⟩ ⟨h2, h3, h4, h5⟩
    simp only at h2 h3 h4 h5
    subst h2
    simp only [List.length_append, List.length_cons] at hl h4 h5 g
    rcases rest with _ | ⟨⟨y_Id, y_L⟩, rest⟩
    · unfold pl226_0
      repeat' (first
        | with_reducible (first | refine wp_seq ?_ | refine wp_blk ?_ | refine wp_skip ?_ | refine wp_exit ?_ | refine wp_ret ?_ | refine seqQ_norm ?_ | refine seqQ_ret ?_ | refine seqQ_exit ?_ | refine blkQ_norm ?_ | refine blkQ_ret ?_ | refine blkQ_exit ?_ | refine loopQ_norm ?_ | refine loopQ_exit ?_ | refine loopQ_ret ?_ | refine endQ_ret ?_ | refine endQ_norm ?_ | refine endE_ret ?_ | refine endE_norm ?_ | refine endI_ret ?_ | refine endI_norm ?_)
        | (with_reducible refine wp_regK fun K hK => ?_
           simp
           repeat' (with_reducible first | refine hK _ ?_ | (refine psel ?_ ?_ <;> (intro hc; (try rw [Decidable.not_not] at hc); first | (exfalso; omega) | (try simp [hc]))))
           all_goals (clear hK; clear K))
        | (with_reducible refine wp_condE ?_
           refine ⟨_, rfl, ?_, ?_⟩ <;> (intro hc; (try simp at hc); (all_goals first | (exfalso; omega) | skip))))
      simp only [List.length_nil] at h4 h5
      all_goals exact ⟨lf, by simp [pf226], by omega, by omega, fun _ => by simp only [List.append_nil]; omega⟩
    · unfold pl226_0
      simp only [List.length_cons] at hl h4 h5
      have hw : IntKind.wrap .i64 ((pre.length : Int) + 1) = (pre.length : Int) + 1 := wrap_i64 (by omega) (by omega)
      have hap := ctRows_app pre ⟨y_Id, y_L⟩
      simp only [ctRow] at hap
      have hd := hok ⟨y_Id, y_L⟩ (by simp)
      simp only [XRow.ok, and_assoc] at hd
      obtain ⟨hlo_y_Id, hhi_y_Id, hok_y_L, hoks_y_L⟩ := hd
      obtain ⟨n1, g1, a1, b1, s1⟩ := t225b k0 y_Id y_L lf (by omega) (by omega) hok_y_L hoks_y_L
      repeat' (first
        | with_reducible (first | refine wp_seq ?_ | refine wp_blk ?_ | refine wp_skip ?_ | refine wp_exit ?_ | refine wp_ret ?_ | refine seqQ_norm ?_ | refine seqQ_ret ?_ | refine seqQ_exit ?_ | refine blkQ_norm ?_ | refine blkQ_ret ?_ | refine blkQ_exit ?_ | refine loopQ_norm ?_ | refine loopQ_exit ?_ | refine loopQ_ret ?_ | refine endQ_ret ?_ | refine endQ_norm ?_ | refine endE_ret ?_ | refine endE_norm ?_ | refine endI_ret ?_ | refine endI_norm ?_)
        | (with_reducible refine wp_regK fun K hK => ?_
           simp[g1, hw]
           repeat' (with_reducible first | refine hK _ ?_ | (refine psel ?_ ?_ <;> (intro hc; (try rw [Decidable.not_not] at hc); first | (exfalso; omega) | (try simp [hc, g1, hw]))))
           all_goals (clear hK; clear K))
        | (with_reducible refine wp_condE ?_
           refine ⟨_, rfl, ?_, ?_⟩ <;> (intro hc; (try simp at hc); (all_goals first | (exfalso; omega) | skip))))
      · exact ⟨-1, by simp [pf226], by omega, by omega, fun h => absurd h (by omega)⟩
      · have hq := s1 (by omega)
        skip
        exact ⟨(pre ++ [⟨y_Id, y_L⟩], rest, n1), by simp, ⟨by simp, by simp only; omega, by simp only [List.length_append, List.length_cons]; omega, by simp only [List.length_append, List.length_cons, List.length_nil]; omega⟩, by simp⟩

def SzbPred (x : XPred) : Prop := ∀ (k0 : Bool) (left : Int), 0 ≤ left → left ≤ 1048576 → x.ok → ∃ n, Gw TT 220 [.st [.ro false (di x.Kind), .ro false (di x.Col), .ro false (di x.Op), .ro false (di x.V.Ty), .ro false (di x.V.N), .ro false (.str x.V.S), .ro k0 (.sl 7 (x.L.map XPred.e))], vi left] = some (vi n, []) ∧ -1 ≤ n ∧ n ≤ left ∧ (0 ≤ n → ctPreds x.L ≤ 31 * (left - n))

def SzbPreds (l : List XPred) : Prop := ∀ (k0 : Bool) (left : Int), 0 ≤ left → left ≤ 1048576 → l.length ≤ 9223372036854775807 → XPred.oks l →
    ∃ n, Gw TT 221 [.one (.ro k0 (.sl 7 (l.map XPred.e))), vi left] = some (vi n, []) ∧ -1 ≤ n ∧ n ≤ left ∧ (0 ≤ n → ctPreds l ≤ 31 * (left - n))

theorem SzbPreds_of (l : List XPred) (IH : ∀ y ∈ l, SzbPred y) : SzbPreds l := by
  intro k0 left h0 h1 hl hok
  refine Gw_ofI (F := pf221) rfl rfl ?_
  show Wp _ pb221 _ _
  unfold pb221
  have g : IntKind.wrap .i64 (left - (l.length : Int)) = left - (l.length : Int) := wrap_i64 (by omega) (by omega)
  repeat' (first
    | with_reducible (first | refine wp_seq ?_ | refine wp_blk ?_ | refine wp_skip ?_ | refine wp_exit ?_ | refine wp_ret ?_ | refine seqQ_norm ?_ | refine seqQ_ret ?_ | refine seqQ_exit ?_ | refine blkQ_norm ?_ | refine blkQ_ret ?_ | refine blkQ_exit ?_ | refine loopQ_norm ?_ | refine loopQ_exit ?_ | refine loopQ_ret ?_ | refine endQ_ret ?_ | refine endQ_norm ?_ | refine endE_ret ?_ | refine endE_norm ?_ | refine endI_ret ?_ | refine endI_norm ?_)
    | (with_reducible refine wp_regK fun K hK => ?_
       simp[g]
       repeat' (with_reducible first | refine hK _ ?_ | (refine psel ?_ ?_ <;> (intro hc; (try rw [Decidable.not_not] at hc); first | (exfalso; omega) | (try simp [hc, g]))))
       all_goals (clear hK; clear K))
    | (with_reducible refine wp_condE ?_
       refine ⟨_, rfl, ?_, ?_⟩ <;> (intro hc; (try simp at hc); (all_goals first | (exfalso; omega) | skip))))
  · exact ⟨-1, by simp [pf221], by omega, by omega, fun h => absurd h (by omega)⟩
  · refine wp_loopI (σ := List XPred × List XPred × Int) (fun s => [(0, AV.v k0 (D.sl 7 (List.map XPred.e l)), none), (1, AV.v false (di s.2.2), none), (5, AV.v false (di (s.1.length : Nat)), none)]) (fun s => l = s.1 ++ s.2.1 ∧ 0 ≤ s.2.2 ∧ s.2.2 ≤ left - (l.length : Int) ∧ ctPreds s.1 ≤ 31 * (left - (l.length : Int) - s.2.2) + 6 * (s.1.length : Int)) (fun s => s.2.1.length) ([], l, left - (l.length : Int)) (by simp) ⟨rfl, by simp only; omega, by simp only; omega, by simp [ctPreds]⟩ ?_
    rintro ⟨pre, rest, lf⟩ ⟨h2, h3, h4, h5⟩
    simp only at h2 h3 h4 h5
    subst h2
    simp only [List.length_append, List.length_cons] at hl h4 h5 g
    rcases rest with _ | ⟨⟨y_Kind, y_Col, y_Op, ⟨y_V_Ty, y_V_N, y_V_S⟩, y_L⟩, rest⟩
    · unfold pl221_0
      repeat' (first
        | with_reducible (first | refine wp_seq ?_ | refine wp_blk ?_ | refine wp_skip ?_ | refine wp_exit ?_ | refine wp_ret ?_ | refine seqQ_norm ?_ | refine seqQ_ret ?_ | refine seqQ_exit ?_ | refine blkQ_norm ?_ | refine blkQ_ret ?_ | refine blkQ_exit ?_ | refine loopQ_norm ?_ | refine loopQ_exit ?_ | refine loopQ_ret ?_ | refine endQ_ret ?_ | refine endQ_norm ?_ | refine endE_ret ?_ | refine endE_norm ?_ | refine endI_ret ?_ | refine endI_norm ?_)
        | (with_reducible refine wp_regK fun K hK => ?_
           simp
           repeat' (with_reducible first | refine hK _ ?_ | (refine psel ?_ ?_ <;> (intro hc; (try rw [Decidable.not_not] at hc); first | (exfalso; omega) | (try simp [hc]))))
           all_goals (clear hK; clear K))
        | (with_reducible refine wp_condE ?_
           refine ⟨_, rfl, ?_, ?_⟩ <;> (intro hc; (try simp at hc); (all_goals first | (exfalso; omega) | skip))))
      simp only [List.length_nil] at h4 h5
      all_goals exact ⟨lf, by simp [pf221], by omega, by omega, fun _ => by simp only [List.append_nil]; omega⟩
    · unfold pl221_0
      simp only [List.length_cons] at hl h4 h5
      have hw : IntKind.wrap .i64 ((pre.length : Int) + 1) = (pre.length : Int) + 1 := wrap_i64 (by omega) (by omega)
      have hap := ctPreds_app pre ⟨y_Kind, y_Col, y_Op, ⟨y_V_Ty, y_V_N, y_V_S⟩, y_L⟩
      simp only [ctPred] at hap
      obtain ⟨n1, g1, a1, b1, s1⟩ := IH ⟨y_Kind, y_Col, y_Op, ⟨y_V_Ty, y_V_N, y_V_S⟩, y_L⟩ (by simp) k0 lf (by omega) (by omega) (XPred.oks_mem hok ⟨y_Kind, y_Col, y_Op, ⟨y_V_Ty, y_V_N, y_V_S⟩, y_L⟩ (by simp))
      simp only at g1
      repeat' (first
        | with_reducible (first | refine wp_seq ?_ | refine wp_blk ?_ | refine wp_skip ?_ | refine wp_exit ?_ | refine wp_ret ?_ | refine seqQ_norm ?_ | refine seqQ_ret ?_ | refine seqQ_exit ?_ | refine blkQ_norm ?_ | refine blkQ_ret ?_ | refine blkQ_exit ?_ | refine loopQ_norm ?_ | refine loopQ_exit ?_ | refine loopQ_ret ?_ | refine endQ_ret ?_ | refine endQ_norm ?_ | refine endE_ret ?_ | refine endE_norm ?_ | refine endI_ret ?_ | refine endI_norm ?_)
        | (with_reducible refine wp_regK fun K hK => ?_
           simp[g1, hw]
           repeat' (with_reducible first | refine hK _ ?_ | (refine psel ?_ ?_ <;> (intro hc; (try rw [Decidable.not_not] at hc); first | (exfalso; omega) | (try simp [hc, g1, hw]))))
           all_goals (clear hK; clear K))
        | (with_reducible refine wp_condE ?_
           refine ⟨_, rfl, ?_, ?_⟩ <;> (intro hc; (try simp at hc); (all_goals first | (exfalso; omega) | skip))))
      · exact ⟨-1, by simp [pf221], by omega, by omega, fun h => absurd h (by omega)⟩
      · have hq := s1 (by omega)
        simp only at hq
        exact ⟨(pre ++ [⟨y_Kind, y_Col, y_Op, ⟨y_V_Ty, y_V_N, y_V_S⟩, y_L⟩], rest, n1), by simp, ⟨by simp, by simp only; omega, by simp only [List.length_append, List.length_cons]; omega, by simp only [List.length_append, List.length_cons, List.length_nil]; omega⟩, by simp⟩

theorem SzbPred_raw (x : XPred) (IH : SzbPreds x.L) (k0 : Bool) (left : Int) (h0 : 0 ≤ left) (h1 : left ≤ 1048576) (hv : x.V.S.size ≤ 9223372036854775807) (hL : x.L.length ≤ 9223372036854775807) (hs : XPred.oks x.L) :
    ∃ n, Gw TT 220 [.st [.ro false (di x.Kind), .ro false (di x.Col), .ro false (di x.Op), .ro false (di x.V.Ty), .ro false (di x.V.N), .ro false (.str x.V.S), .ro k0 (.sl 7 (x.L.map XPred.e))], vi left] = some (vi n, []) ∧ -1 ≤ n ∧ n ≤ left ∧ (0 ≤ n → ctPreds x.L ≤ 31 * (left - n)) := by
  obtain ⟨x_Kind, x_Col, x_Op, ⟨x_V_Ty, x_V_N, x_V_S⟩, x_L⟩ := x
  have hok_x_V_S := hv
  have hok_x_L := hL
  have hoks_x_L := hs
  simp only at hok_x_V_S hok_x_L hoks_x_L IH
  refine Gw_ofI (F := pf220) rfl rfl ?_
  show Wp _ pb220 _ _
  unfold pb220
  have hn_x_L := ctPreds_nn x_L
  obtain ⟨n1, g1, a1, b1, s1⟩ := t231b x_V_Ty x_V_N x_V_S left (by omega) (by omega) hok_x_V_S
  repeat' (first
    | with_reducible (first | refine wp_seq ?_ | refine wp_blk ?_ | refine wp_skip ?_ | refine wp_exit ?_ | refine wp_ret ?_ | refine seqQ_norm ?_ | refine seqQ_ret ?_ | refine seqQ_exit ?_ | refine blkQ_norm ?_ | refine blkQ_ret ?_ | refine blkQ_exit ?_ | refine loopQ_norm ?_ | refine loopQ_exit ?_ | refine loopQ_ret ?_ | refine endQ_ret ?_ | refine endQ_norm ?_ | refine endE_ret ?_ | refine endE_norm ?_ | refine endI_ret ?_ | refine endI_norm ?_)
    | (with_reducible refine wp_regK fun K hK => ?_
       simp[g1]
       repeat' (with_reducible first | refine hK _ ?_ | (refine psel ?_ ?_ <;> (intro hc; (try rw [Decidable.not_not] at hc); first | (exfalso; omega) | (try simp [hc, g1]))))
       all_goals (clear hK; clear K))
    | (with_reducible refine wp_condE ?_
       refine ⟨_, rfl, ?_, ?_⟩ <;> (intro hc; (try simp at hc); (all_goals first | (exfalso; omega) | skip))))
  · exact ⟨-1, by simp [pf220], by omega, by omega, fun h => absurd h (by omega)⟩
  have q1 := s1 (by omega)
  obtain ⟨n2, g2, a2, b2, s2⟩ := IH k0 n1 (by omega) (by omega) hok_x_L hoks_x_L
  try simp only at g2
  repeat' (first
    | with_reducible (first | refine wp_seq ?_ | refine wp_blk ?_ | refine wp_skip ?_ | refine wp_exit ?_ | refine wp_ret ?_ | refine seqQ_norm ?_ | refine seqQ_ret ?_ | refine seqQ_exit ?_ | refine blkQ_norm ?_ | refine blkQ_ret ?_ | refine blkQ_exit ?_ | refine loopQ_norm ?_ | refine loopQ_exit ?_ | refine loopQ_ret ?_ | refine endQ_ret ?_ | refine endQ_norm ?_ | refine endE_ret ?_ | refine endE_norm ?_ | refine endI_ret ?_ | refine endI_norm ?_)
    | (with_reducible refine wp_regK fun K hK => ?_
       simp[g2]
       repeat' (with_reducible first | refine hK _ ?_ | (refine psel ?_ ?_ <;> (intro hc; (try rw [Decidable.not_not] at hc); first | (exfalso; omega) | (try simp [hc, g2]))))
       all_goals (clear hK; clear K))
    | (with_reducible refine wp_condE ?_
       refine ⟨_, rfl, ?_, ?_⟩ <;> (intro hc; (try simp at hc); (all_goals first | (exfalso; omega) | skip))))
  · exact ⟨-1, by simp [pf220], by omega, by omega, fun h => absurd h (by omega)⟩
  have q2 := s2 (by omega)
  · exact ⟨n2, by simp [pf220], by omega, by omega, fun _ => by simp only; omega⟩

theorem SzbPred_of (x : XPred) (IH : SzbPreds x.L) : SzbPred x := by
  intro k0 left h0 h1 hx
  obtain ⟨x_Kind, x_Col, x_Op, ⟨x_V_Ty, x_V_N, x_V_S⟩, x_L⟩ := x
  simp only [XPred.ok_eq, XVal.ok, and_assoc] at hx
  obtain ⟨_, _, _, _, _, _, _, _, _, _, hok_x_V_S, hok_x_L, hoks_x_L⟩ := hx
  exact SzbPred_raw _ IH k0 left h0 h1 hok_x_V_S hok_x_L hoks_x_L

theorem SzbPred_all (x : XPred) : SzbPred x :=
  SzbPred_of x (SzbPreds_of x.L fun y hy => SzbPred_all y)
termination_by SizeOf.sizeOf x
decreasing_by
  have h1 := List.sizeOf_lt_of_mem hy
  have h2 : SizeOf.sizeOf x.L < SizeOf.sizeOf x := by cases x; simp; omega
  omega

theorem t220b (k0 : Bool) (x_Kind : Int) (x_Col : Int) (x_Op : Int) (x_V_Ty : Int) (x_V_N : Int) (x_V_S : ByteArray) (x_L : List XPred) (left : Int) (h0 : 0 ≤ left) (h1 : left ≤ 1048576) (hok_x_V_S : x_V_S.size ≤ 9223372036854775807) (hok_x_L : x_L.length ≤ 9223372036854775807) (hoks_x_L : XPred.oks x_L) :
    ∃ n, Gw TT 220 [.st [.ro false (di x_Kind), .ro false (di x_Col), .ro false (di x_Op), .ro false (di x_V_Ty), .ro false (di x_V_N), .ro false (.str x_V_S), .ro k0 (.sl 7 (x_L.map XPred.e))], vi left] = some (vi n, []) ∧ -1 ≤ n ∧ n ≤ left ∧ (0 ≤ n → ctPreds x_L ≤ 31 * (left - n)) :=
  SzbPred_raw ⟨x_Kind, x_Col, x_Op, ⟨x_V_Ty, x_V_N, x_V_S⟩, x_L⟩ (SzbPreds_of x_L fun y _ => SzbPred_all y) k0 left h0 h1 hok_x_V_S hok_x_L hoks_x_L

theorem t222b (k0 : Bool) (x_Kind : Int) (x_P_Kind : Int) (x_P_Col : Int) (x_P_Op : Int) (x_P_V_Ty : Int) (x_P_V_N : Int) (x_P_V_S : ByteArray) (x_P_L : List XPred) (x_Col : Int) (x_Out : List Int) (left : Int) (h0 : 0 ≤ left) (h1 : left ≤ 1048576) (hok_x_P_V_S : x_P_V_S.size ≤ 9223372036854775807) (hok_x_P_L : x_P_L.length ≤ 9223372036854775807) (hoks_x_P_L : XPred.oks x_P_L) (hok_x_Out : x_Out.length ≤ 9223372036854775807) :
    ∃ n, Gw TT 222 [.st [.ro false (di x_Kind), .ro false (di x_P_Kind), .ro false (di x_P_Col), .ro false (di x_P_Op), .ro false (di x_P_V_Ty), .ro false (di x_P_V_N), .ro false (.str x_P_V_S), .ro k0 (.sl 7 (x_P_L.map XPred.e)), .ro false (di x_Col), .ro k0 (.sl 1 (x_Out.map ei))], vi left] = some (vi n, []) ∧ -1 ≤ n ∧ n ≤ left ∧ (0 ≤ n → ctPreds x_P_L + ctInts x_Out ≤ 31 * (left - n)) := by
  refine Gw_ofI (F := pf222) rfl rfl ?_
  show Wp _ pb222 _ _
  unfold pb222
  have hn_x_P_L := ctPreds_nn x_P_L
  have hn_x_Out := ctInts_nn x_Out
  obtain ⟨n1, g1, a1, b1, s1⟩ := t220b k0 x_P_Kind x_P_Col x_P_Op x_P_V_Ty x_P_V_N x_P_V_S x_P_L left (by omega) (by omega) hok_x_P_V_S hok_x_P_L hoks_x_P_L
  repeat' (first
    | with_reducible (first | refine wp_seq ?_ | refine wp_blk ?_ | refine wp_skip ?_ | refine wp_exit ?_ | refine wp_ret ?_ | refine seqQ_norm ?_ | refine seqQ_ret ?_ | refine seqQ_exit ?_ | refine blkQ_norm ?_ | refine blkQ_ret ?_ | refine blkQ_exit ?_ | refine loopQ_norm ?_ | refine loopQ_exit ?_ | refine loopQ_ret ?_ | refine endQ_ret ?_ | refine endQ_norm ?_ | refine endE_ret ?_ | refine endE_norm ?_ | refine endI_ret ?_ | refine endI_norm ?_)
    | (with_reducible refine wp_regK fun K hK => ?_
       simp[g1]
       repeat' (with_reducible first | refine hK _ ?_ | (refine psel ?_ ?_ <;> (intro hc; (try rw [Decidable.not_not] at hc); first | (exfalso; omega) | (try simp [hc, g1]))))
       all_goals (clear hK; clear K))
    | (with_reducible refine wp_condE ?_
       refine ⟨_, rfl, ?_, ?_⟩ <;> (intro hc; (try simp at hc); (all_goals first | (exfalso; omega) | skip))))
  · exact ⟨-1, by simp [pf222], by omega, by omega, fun h => absurd h (by omega)⟩
  have q1 := s1 (by omega)
  obtain ⟨n2, g2, a2, b2, s2⟩ := t219b k0 x_Out n1 (by omega) (by omega) hok_x_Out
  repeat' (first
    | with_reducible (first | refine wp_seq ?_ | refine wp_blk ?_ | refine wp_skip ?_ | refine wp_exit ?_ | refine wp_ret ?_ | refine seqQ_norm ?_ | refine seqQ_ret ?_ | refine seqQ_exit ?_ | refine blkQ_norm ?_ | refine blkQ_ret ?_ | refine blkQ_exit ?_ | refine loopQ_norm ?_ | refine loopQ_exit ?_ | refine loopQ_ret ?_ | refine endQ_ret ?_ | refine endQ_norm ?_ | refine endE_ret ?_ | refine endE_norm ?_ | refine endI_ret ?_ | refine endI_norm ?_)
    | (with_reducible refine wp_regK fun K hK => ?_
       simp[g2]
       repeat' (with_reducible first | refine hK _ ?_ | (refine psel ?_ ?_ <;> (intro hc; (try rw [Decidable.not_not] at hc); first | (exfalso; omega) | (try simp [hc, g2]))))
       all_goals (clear hK; clear K))
    | (with_reducible refine wp_condE ?_
       refine ⟨_, rfl, ?_, ?_⟩ <;> (intro hc; (try simp at hc); (all_goals first | (exfalso; omega) | skip))))
  · exact ⟨-1, by simp [pf222], by omega, by omega, fun h => absurd h (by omega)⟩
  have q2 := s2 (by omega)
  · exact ⟨n2, by simp [pf222], by omega, by omega, fun _ => by omega⟩

theorem t224b (k0 : Bool) (x_Rows : List XRow) (x_N : Int) (x_Has : Bool) (x_V_Ty : Int) (x_V_N : Int) (x_V_S : ByteArray) (left : Int) (h0 : 0 ≤ left) (h1 : left ≤ 1048576) (hok_x_Rows : x_Rows.length ≤ 9223372036854775807) (hoks_x_Rows : XRow.oks x_Rows) (hok_x_V_S : x_V_S.size ≤ 9223372036854775807) :
    ∃ n, Gw TT 224 [.st [.ro k0 (.sl 2 (x_Rows.map XRow.e)), .ro false (di x_N), .ro false (.bool x_Has), .ro false (di x_V_Ty), .ro false (di x_V_N), .ro false (.str x_V_S)], vi left] = some (vi n, []) ∧ -1 ≤ n ∧ n ≤ left ∧ (0 ≤ n → ctRows x_Rows ≤ 31 * (left - n)) := by
  refine Gw_ofI (F := pf224) rfl rfl ?_
  show Wp _ pb224 _ _
  unfold pb224
  have hn_x_Rows := ctRows_nn x_Rows
  obtain ⟨n1, g1, a1, b1, s1⟩ := t226b k0 x_Rows left (by omega) (by omega) hok_x_Rows hoks_x_Rows
  repeat' (first
    | with_reducible (first | refine wp_seq ?_ | refine wp_blk ?_ | refine wp_skip ?_ | refine wp_exit ?_ | refine wp_ret ?_ | refine seqQ_norm ?_ | refine seqQ_ret ?_ | refine seqQ_exit ?_ | refine blkQ_norm ?_ | refine blkQ_ret ?_ | refine blkQ_exit ?_ | refine loopQ_norm ?_ | refine loopQ_exit ?_ | refine loopQ_ret ?_ | refine endQ_ret ?_ | refine endQ_norm ?_ | refine endE_ret ?_ | refine endE_norm ?_ | refine endI_ret ?_ | refine endI_norm ?_)
    | (with_reducible refine wp_regK fun K hK => ?_
       simp[g1]
       repeat' (with_reducible first | refine hK _ ?_ | (refine psel ?_ ?_ <;> (intro hc; (try rw [Decidable.not_not] at hc); first | (exfalso; omega) | (try simp [hc, g1]))))
       all_goals (clear hK; clear K))
    | (with_reducible refine wp_condE ?_
       refine ⟨_, rfl, ?_, ?_⟩ <;> (intro hc; (try simp at hc); (all_goals first | (exfalso; omega) | skip))))
  · exact ⟨-1, by simp [pf224], by omega, by omega, fun h => absurd h (by omega)⟩
  have q1 := s1 (by omega)
  obtain ⟨n2, g2, a2, b2, s2⟩ := t231b x_V_Ty x_V_N x_V_S n1 (by omega) (by omega) hok_x_V_S
  repeat' (first
    | with_reducible (first | refine wp_seq ?_ | refine wp_blk ?_ | refine wp_skip ?_ | refine wp_exit ?_ | refine wp_ret ?_ | refine seqQ_norm ?_ | refine seqQ_ret ?_ | refine seqQ_exit ?_ | refine blkQ_norm ?_ | refine blkQ_ret ?_ | refine blkQ_exit ?_ | refine loopQ_norm ?_ | refine loopQ_exit ?_ | refine loopQ_ret ?_ | refine endQ_ret ?_ | refine endQ_norm ?_ | refine endE_ret ?_ | refine endE_norm ?_ | refine endI_ret ?_ | refine endI_norm ?_)
    | (with_reducible refine wp_regK fun K hK => ?_
       simp[g2]
       repeat' (with_reducible first | refine hK _ ?_ | (refine psel ?_ ?_ <;> (intro hc; (try rw [Decidable.not_not] at hc); first | (exfalso; omega) | (try simp [hc, g2]))))
       all_goals (clear hK; clear K))
    | (with_reducible refine wp_condE ?_
       refine ⟨_, rfl, ?_, ?_⟩ <;> (intro hc; (try simp at hc); (all_goals first | (exfalso; omega) | skip))))
  · exact ⟨-1, by simp [pf224], by omega, by omega, fun h => absurd h (by omega)⟩
  have q2 := s2 (by omega)
  · exact ⟨n2, by simp [pf224], by omega, by omega, fun _ => by omega⟩

theorem t216b (k0 : Bool) (x_Op : Int) (x_Task : Int) (x_R : List XVal) (x_Id : Int) (x_Q_Kind : Int) (x_Q_P_Kind : Int) (x_Q_P_Col : Int) (x_Q_P_Op : Int) (x_Q_P_V_Ty : Int) (x_Q_P_V_N : Int) (x_Q_P_V_S : ByteArray) (x_Q_P_L : List XPred) (x_Q_Col : Int) (x_Q_Out : List Int) (x_Res_Rows : List XRow) (x_Res_N : Int) (x_Res_Has : Bool) (x_Res_V_Ty : Int) (x_Res_V_N : Int) (x_Res_V_S : ByteArray) (x_Code : Int) (x_Stamp : Int) (x_Inv : Int) (x_Lin : Int) (x_Ret : Int) (left : Int) (h0 : 0 ≤ left) (h1 : left ≤ 1048576) (hok_x_R : x_R.length ≤ 9223372036854775807) (hoks_x_R : XVal.oks x_R) (hok_x_Q_P_V_S : x_Q_P_V_S.size ≤ 9223372036854775807) (hok_x_Q_P_L : x_Q_P_L.length ≤ 9223372036854775807) (hoks_x_Q_P_L : XPred.oks x_Q_P_L) (hok_x_Q_Out : x_Q_Out.length ≤ 9223372036854775807) (hok_x_Res_Rows : x_Res_Rows.length ≤ 9223372036854775807) (hoks_x_Res_Rows : XRow.oks x_Res_Rows) (hok_x_Res_V_S : x_Res_V_S.size ≤ 9223372036854775807) :
    ∃ n, Gw TT 216 [.st [.ro false (di x_Op), .ro false (di x_Task), .ro k0 (.sl 3 (x_R.map XVal.e)), .ro false (di x_Id), .ro false (di x_Q_Kind), .ro false (di x_Q_P_Kind), .ro false (di x_Q_P_Col), .ro false (di x_Q_P_Op), .ro false (di x_Q_P_V_Ty), .ro false (di x_Q_P_V_N), .ro false (.str x_Q_P_V_S), .ro k0 (.sl 7 (x_Q_P_L.map XPred.e)), .ro false (di x_Q_Col), .ro k0 (.sl 1 (x_Q_Out.map ei)), .ro k0 (.sl 2 (x_Res_Rows.map XRow.e)), .ro false (di x_Res_N), .ro false (.bool x_Res_Has), .ro false (di x_Res_V_Ty), .ro false (di x_Res_V_N), .ro false (.str x_Res_V_S), .ro false (di x_Code), .ro false (di x_Stamp), .ro false (di x_Inv), .ro false (di x_Lin), .ro false (di x_Ret)], vi left] = some (vi n, []) ∧ -1 ≤ n ∧ n ≤ left ∧ (0 ≤ n → ctVals x_R + ctPreds x_Q_P_L + ctInts x_Q_Out + ctRows x_Res_Rows ≤ 31 * (left - n)) := by
  refine Gw_ofI (F := pf216) rfl rfl ?_
  show Wp _ pb216 _ _
  unfold pb216
  have hn_x_R := ctVals_nn x_R
  have hn_x_Q_P_L := ctPreds_nn x_Q_P_L
  have hn_x_Q_Out := ctInts_nn x_Q_Out
  have hn_x_Res_Rows := ctRows_nn x_Res_Rows
  obtain ⟨n1, g1, a1, b1, s1⟩ := t232b k0 x_R left (by omega) (by omega) hok_x_R hoks_x_R
  repeat' (first
    | with_reducible (first | refine wp_seq ?_ | refine wp_blk ?_ | refine wp_skip ?_ | refine wp_exit ?_ | refine wp_ret ?_ | refine seqQ_norm ?_ | refine seqQ_ret ?_ | refine seqQ_exit ?_ | refine blkQ_norm ?_ | refine blkQ_ret ?_ | refine blkQ_exit ?_ | refine loopQ_norm ?_ | refine loopQ_exit ?_ | refine loopQ_ret ?_ | refine endQ_ret ?_ | refine endQ_norm ?_ | refine endE_ret ?_ | refine endE_norm ?_ | refine endI_ret ?_ | refine endI_norm ?_)
    | (with_reducible refine wp_regK fun K hK => ?_
       simp[g1]
       repeat' (with_reducible first | refine hK _ ?_ | (refine psel ?_ ?_ <;> (intro hc; (try rw [Decidable.not_not] at hc); first | (exfalso; omega) | (try simp [hc, g1]))))
       all_goals (clear hK; clear K))
    | (with_reducible refine wp_condE ?_
       refine ⟨_, rfl, ?_, ?_⟩ <;> (intro hc; (try simp at hc); (all_goals first | (exfalso; omega) | skip))))
  · exact ⟨-1, by simp [pf216], by omega, by omega, fun h => absurd h (by omega)⟩
  have q1 := s1 (by omega)
  obtain ⟨n2, g2, a2, b2, s2⟩ := t222b k0 x_Q_Kind x_Q_P_Kind x_Q_P_Col x_Q_P_Op x_Q_P_V_Ty x_Q_P_V_N x_Q_P_V_S x_Q_P_L x_Q_Col x_Q_Out n1 (by omega) (by omega) hok_x_Q_P_V_S hok_x_Q_P_L hoks_x_Q_P_L hok_x_Q_Out
  repeat' (first
    | with_reducible (first | refine wp_seq ?_ | refine wp_blk ?_ | refine wp_skip ?_ | refine wp_exit ?_ | refine wp_ret ?_ | refine seqQ_norm ?_ | refine seqQ_ret ?_ | refine seqQ_exit ?_ | refine blkQ_norm ?_ | refine blkQ_ret ?_ | refine blkQ_exit ?_ | refine loopQ_norm ?_ | refine loopQ_exit ?_ | refine loopQ_ret ?_ | refine endQ_ret ?_ | refine endQ_norm ?_ | refine endE_ret ?_ | refine endE_norm ?_ | refine endI_ret ?_ | refine endI_norm ?_)
    | (with_reducible refine wp_regK fun K hK => ?_
       simp[g2]
       repeat' (with_reducible first | refine hK _ ?_ | (refine psel ?_ ?_ <;> (intro hc; (try rw [Decidable.not_not] at hc); first | (exfalso; omega) | (try simp [hc, g2]))))
       all_goals (clear hK; clear K))
    | (with_reducible refine wp_condE ?_
       refine ⟨_, rfl, ?_, ?_⟩ <;> (intro hc; (try simp at hc); (all_goals first | (exfalso; omega) | skip))))
  · exact ⟨-1, by simp [pf216], by omega, by omega, fun h => absurd h (by omega)⟩
  have q2 := s2 (by omega)
  obtain ⟨n3, g3, a3, b3, s3⟩ := t224b k0 x_Res_Rows x_Res_N x_Res_Has x_Res_V_Ty x_Res_V_N x_Res_V_S n2 (by omega) (by omega) hok_x_Res_Rows hoks_x_Res_Rows hok_x_Res_V_S
  repeat' (first
    | with_reducible (first | refine wp_seq ?_ | refine wp_blk ?_ | refine wp_skip ?_ | refine wp_exit ?_ | refine wp_ret ?_ | refine seqQ_norm ?_ | refine seqQ_ret ?_ | refine seqQ_exit ?_ | refine blkQ_norm ?_ | refine blkQ_ret ?_ | refine blkQ_exit ?_ | refine loopQ_norm ?_ | refine loopQ_exit ?_ | refine loopQ_ret ?_ | refine endQ_ret ?_ | refine endQ_norm ?_ | refine endE_ret ?_ | refine endE_norm ?_ | refine endI_ret ?_ | refine endI_norm ?_)
    | (with_reducible refine wp_regK fun K hK => ?_
       simp[g3]
       repeat' (with_reducible first | refine hK _ ?_ | (refine psel ?_ ?_ <;> (intro hc; (try rw [Decidable.not_not] at hc); first | (exfalso; omega) | (try simp [hc, g3]))))
       all_goals (clear hK; clear K))
    | (with_reducible refine wp_condE ?_
       refine ⟨_, rfl, ?_, ?_⟩ <;> (intro hc; (try simp at hc); (all_goals first | (exfalso; omega) | skip))))
  · exact ⟨-1, by simp [pf216], by omega, by omega, fun h => absurd h (by omega)⟩
  have q3 := s3 (by omega)
  · exact ⟨n3, by simp [pf216], by omega, by omega, fun _ => by omega⟩

theorem t217b (k0 : Bool) (l : List XDeed) (left : Int) (h0 : 0 ≤ left) (h1 : left ≤ 1048576) (hl : l.length ≤ 9223372036854775807) (hok : XDeed.oks l) :
    ∃ n, Gw TT 217 [.one (.ro k0 (.sl 25 (l.map XDeed.e))), vi left] = some (vi n, []) ∧ -1 ≤ n ∧ n ≤ left ∧ (0 ≤ n → ctDeeds l ≤ 31 * (left - n)) := by
  refine Gw_ofI (F := pf217) rfl rfl ?_
  show Wp _ pb217 _ _
  unfold pb217
  have g : IntKind.wrap .i64 (left - (l.length : Int)) = left - (l.length : Int) := wrap_i64 (by omega) (by omega)
  repeat' (first
    | with_reducible (first | refine wp_seq ?_ | refine wp_blk ?_ | refine wp_skip ?_ | refine wp_exit ?_ | refine wp_ret ?_ | refine seqQ_norm ?_ | refine seqQ_ret ?_ | refine seqQ_exit ?_ | refine blkQ_norm ?_ | refine blkQ_ret ?_ | refine blkQ_exit ?_ | refine loopQ_norm ?_ | refine loopQ_exit ?_ | refine loopQ_ret ?_ | refine endQ_ret ?_ | refine endQ_norm ?_ | refine endE_ret ?_ | refine endE_norm ?_ | refine endI_ret ?_ | refine endI_norm ?_)
    | (with_reducible refine wp_regK fun K hK => ?_
       simp[g]
       repeat' (with_reducible first | refine hK _ ?_ | (refine psel ?_ ?_ <;> (intro hc; (try rw [Decidable.not_not] at hc); first | (exfalso; omega) | (try simp [hc, g]))))
       all_goals (clear hK; clear K))
    | (with_reducible refine wp_condE ?_
       refine ⟨_, rfl, ?_, ?_⟩ <;> (intro hc; (try simp at hc); (all_goals first | (exfalso; omega) | skip))))
  · exact ⟨-1, by simp [pf217], by omega, by omega, fun h => absurd h (by omega)⟩
  · refine wp_loopI (σ := List XDeed × List XDeed × Int) (fun s => [(0, AV.v k0 (D.sl 25 (List.map XDeed.e l)), none), (1, AV.v false (di s.2.2), none), (5, AV.v false (di (s.1.length : Nat)), none)]) (fun s => l = s.1 ++ s.2.1 ∧ 0 ≤ s.2.2 ∧ s.2.2 ≤ left - (l.length : Int) ∧ ctDeeds s.1 ≤ 31 * (left - (l.length : Int) - s.2.2) + 21 * (s.1.length : Int)) (fun s => s.2.1.length) ([], l, left - (l.length : Int)) (by simp) ⟨rfl, by simp only; omega, by simp only; omega, by simp [ctDeeds]⟩ ?_
    rintro ⟨pre, rest, lf⟩ ⟨h2, h3, h4, h5⟩
    simp only at h2 h3 h4 h5
    subst h2
    simp only [List.length_append, List.length_cons] at hl h4 h5 g
    rcases rest with _ | ⟨⟨y_Op, y_Task, y_R, y_Id, ⟨y_Q_Kind, ⟨y_Q_P_Kind, y_Q_P_Col, y_Q_P_Op, ⟨y_Q_P_V_Ty, y_Q_P_V_N, y_Q_P_V_S⟩, y_Q_P_L⟩, y_Q_Col, y_Q_Out⟩, ⟨y_Res_Rows, y_Res_N, y_Res_Has, ⟨y_Res_V_Ty, y_Res_V_N, y_Res_V_S⟩⟩, y_Code, y_Stamp, y_Inv, y_Lin, y_Ret⟩, rest⟩
    · unfold pl217_0
      repeat' (first
        | with_reducible (first | refine wp_seq ?_ | refine wp_blk ?_ | refine wp_skip ?_ | refine wp_exit ?_ | refine wp_ret ?_ | refine seqQ_norm ?_ | refine seqQ_ret ?_ | refine seqQ_exit ?_ | refine blkQ_norm ?_ | refine blkQ_ret ?_ | refine blkQ_exit ?_ | refine loopQ_norm ?_ | refine loopQ_exit ?_ | refine loopQ_ret ?_ | refine endQ_ret ?_ | refine endQ_norm ?_ | refine endE_ret ?_ | refine endE_norm ?_ | refine endI_ret ?_ | refine endI_norm ?_)
        | (with_reducible refine wp_regK fun K hK => ?_
           simp
           repeat' (with_reducible first | refine hK _ ?_ | (refine psel ?_ ?_ <;> (intro hc; (try rw [Decidable.not_not] at hc); first | (exfalso; omega) | (try simp [hc]))))
           all_goals (clear hK; clear K))
        | (with_reducible refine wp_condE ?_
           refine ⟨_, rfl, ?_, ?_⟩ <;> (intro hc; (try simp at hc); (all_goals first | (exfalso; omega) | skip))))
      simp only [List.length_nil] at h4 h5
      all_goals exact ⟨lf, by simp [pf217], by omega, by omega, fun _ => by simp only [List.append_nil]; omega⟩
    · unfold pl217_0
      simp only [List.length_cons] at hl h4 h5
      have hw : IntKind.wrap .i64 ((pre.length : Int) + 1) = (pre.length : Int) + 1 := wrap_i64 (by omega) (by omega)
      have hap := ctDeeds_app pre ⟨y_Op, y_Task, y_R, y_Id, ⟨y_Q_Kind, ⟨y_Q_P_Kind, y_Q_P_Col, y_Q_P_Op, ⟨y_Q_P_V_Ty, y_Q_P_V_N, y_Q_P_V_S⟩, y_Q_P_L⟩, y_Q_Col, y_Q_Out⟩, ⟨y_Res_Rows, y_Res_N, y_Res_Has, ⟨y_Res_V_Ty, y_Res_V_N, y_Res_V_S⟩⟩, y_Code, y_Stamp, y_Inv, y_Lin, y_Ret⟩
      simp only [ctDeed] at hap
      have hd := hok ⟨y_Op, y_Task, y_R, y_Id, ⟨y_Q_Kind, ⟨y_Q_P_Kind, y_Q_P_Col, y_Q_P_Op, ⟨y_Q_P_V_Ty, y_Q_P_V_N, y_Q_P_V_S⟩, y_Q_P_L⟩, y_Q_Col, y_Q_Out⟩, ⟨y_Res_Rows, y_Res_N, y_Res_Has, ⟨y_Res_V_Ty, y_Res_V_N, y_Res_V_S⟩⟩, y_Code, y_Stamp, y_Inv, y_Lin, y_Ret⟩ (by simp)
      simp only [XDeed.ok, XQuery.ok, XPred.ok_eq, XVal.ok, XResult.ok, and_assoc] at hd
      obtain ⟨hlo_y_Op, hhi_y_Op, hlo_y_Task, hhi_y_Task, hok_y_R, hoks_y_R, hlo_y_Id, hhi_y_Id, hlo_y_Q_Kind, hhi_y_Q_Kind, hlo_y_Q_P_Kind, hhi_y_Q_P_Kind, hlo_y_Q_P_Col, hhi_y_Q_P_Col, hlo_y_Q_P_Op, hhi_y_Q_P_Op, hlo_y_Q_P_V_Ty, hhi_y_Q_P_V_Ty, hlo_y_Q_P_V_N, hhi_y_Q_P_V_N, hok_y_Q_P_V_S, hok_y_Q_P_L, hoks_y_Q_P_L, hlo_y_Q_Col, hhi_y_Q_Col, hok_y_Q_Out, hoki_y_Q_Out, hok_y_Res_Rows, hoks_y_Res_Rows, hlo_y_Res_N, hhi_y_Res_N, hlo_y_Res_V_Ty, hhi_y_Res_V_Ty, hlo_y_Res_V_N, hhi_y_Res_V_N, hok_y_Res_V_S, hlo_y_Code, hhi_y_Code, hlo_y_Stamp, hhi_y_Stamp, hlo_y_Inv, hhi_y_Inv, hlo_y_Lin, hhi_y_Lin, hlo_y_Ret, hhi_y_Ret⟩ := hd
      obtain ⟨n1, g1, a1, b1, s1⟩ := t216b k0 y_Op y_Task y_R y_Id y_Q_Kind y_Q_P_Kind y_Q_P_Col y_Q_P_Op y_Q_P_V_Ty y_Q_P_V_N y_Q_P_V_S y_Q_P_L y_Q_Col y_Q_Out y_Res_Rows y_Res_N y_Res_Has y_Res_V_Ty y_Res_V_N y_Res_V_S y_Code y_Stamp y_Inv y_Lin y_Ret lf (by omega) (by omega) hok_y_R hoks_y_R hok_y_Q_P_V_S hok_y_Q_P_L hoks_y_Q_P_L hok_y_Q_Out hok_y_Res_Rows hoks_y_Res_Rows hok_y_Res_V_S
      repeat' (first
        | with_reducible (first | refine wp_seq ?_ | refine wp_blk ?_ | refine wp_skip ?_ | refine wp_exit ?_ | refine wp_ret ?_ | refine seqQ_norm ?_ | refine seqQ_ret ?_ | refine seqQ_exit ?_ | refine blkQ_norm ?_ | refine blkQ_ret ?_ | refine blkQ_exit ?_ | refine loopQ_norm ?_ | refine loopQ_exit ?_ | refine loopQ_ret ?_ | refine endQ_ret ?_ | refine endQ_norm ?_ | refine endE_ret ?_ | refine endE_norm ?_ | refine endI_ret ?_ | refine endI_norm ?_)
        | (with_reducible refine wp_regK fun K hK => ?_
           simp[g1, hw]
           repeat' (with_reducible first | refine hK _ ?_ | (refine psel ?_ ?_ <;> (intro hc; (try rw [Decidable.not_not] at hc); first | (exfalso; omega) | (try simp [hc, g1, hw]))))
           all_goals (clear hK; clear K))
        | (with_reducible refine wp_condE ?_
           refine ⟨_, rfl, ?_, ?_⟩ <;> (intro hc; (try simp at hc); (all_goals first | (exfalso; omega) | skip))))
      · exact ⟨-1, by simp [pf217], by omega, by omega, fun h => absurd h (by omega)⟩
      · have hq := s1 (by omega)
        skip
        exact ⟨(pre ++ [⟨y_Op, y_Task, y_R, y_Id, ⟨y_Q_Kind, ⟨y_Q_P_Kind, y_Q_P_Col, y_Q_P_Op, ⟨y_Q_P_V_Ty, y_Q_P_V_N, y_Q_P_V_S⟩, y_Q_P_L⟩, y_Q_Col, y_Q_Out⟩, ⟨y_Res_Rows, y_Res_N, y_Res_Has, ⟨y_Res_V_Ty, y_Res_V_N, y_Res_V_S⟩⟩, y_Code, y_Stamp, y_Inv, y_Lin, y_Ret⟩], rest, n1), by simp, ⟨by simp, by simp only; omega, by simp only [List.length_append, List.length_cons]; omega, by simp only [List.length_append, List.length_cons, List.length_nil]; omega⟩, by simp⟩

/-- By key, then by number. -/
def slt (ky : Int → Int) (x y : Int) : Prop := ky x < ky y ∨ (ky x = ky y ∧ x < y)
def Srt (ky : Int → Int) (l : List Int) : Prop := l.Pairwise (slt ky)

def icmp (x y : Int) : Int := if x < y then -1 else if y < x then 1 else 0
theorem icmp_neg (x y : Int) : icmp x y < 0 ↔ x < y := by unfold icmp; split <;> (try split) <;> omega

theorem slt.trans {ky : Int → Int} {x y z : Int} (h1 : slt ky x y) (h2 : slt ky y z) : slt ky x z := by unfold slt at *; omega
theorem slt.irrefl {ky : Int → Int} {x : Int} : ¬ slt ky x x := by unfold slt; omega
theorem slt.asymm {ky : Int → Int} {x y : Int} (h : slt ky x y) : ¬ slt ky y x := by unfold slt at *; omega
theorem slt.le {ky : Int → Int} {x y : Int} (h : slt ky x y) : ky x ≤ ky y := by unfold slt at h; omega
theorem slt_of_lt {ky : Int → Int} {x y : Int} (h : ky x < ky y) : slt ky x y := .inl h
theorem slt_of_le {ky : Int → Int} {x y : Int} (h : ky x ≤ ky y) (h2 : x < y) : slt ky x y := by unfold slt; omega

theorem srt_ins {ky : Int → Int} {U V : List Int} {x : Int} (h : Srt ky (U ++ V)) (h1 : ∀ v ∈ V, slt ky x v) (h2 : ∀ u ∈ U, slt ky u x) : Srt ky (U ++ x :: V) := by
  unfold Srt at *
  rw [List.pairwise_append] at h ⊢
  refine ⟨h.1, List.pairwise_cons.2 ⟨h1, h.2.1⟩, fun a ha b hb => ?_⟩
  rcases List.mem_cons.1 hb with rfl | hb
  · exact h2 a ha
  · exact h.2.2 a ha b hb

theorem srt_app {ky : Int → Int} {A B : List Int} (h1 : Srt ky A) (h2 : Srt ky B) (h : ∀ a ∈ A, ∀ b ∈ B, slt ky a b) : Srt ky (A ++ B) :=
  List.pairwise_append.2 ⟨h1, h2, h⟩
theorem Srt.left {ky : Int → Int} {A B : List Int} (h : Srt ky (A ++ B)) : Srt ky A := (List.pairwise_append.1 h).1
theorem Srt.right {ky : Int → Int} {A B : List Int} (h : Srt ky (A ++ B)) : Srt ky B := (List.pairwise_append.1 h).2.1
theorem Srt.cross {ky : Int → Int} {A B : List Int} (h : Srt ky (A ++ B)) : ∀ a ∈ A, ∀ b ∈ B, slt ky a b := (List.pairwise_append.1 h).2.2

/-- One list has the elements of both, in order: there is one such list only. -/
theorem srt_unique {ky : Int → Int} : ∀ {A B : List Int}, A.Perm B → Srt ky A → Srt ky B → A = B := by
  intro A
  induction A with
  | nil => intro B h _ _; exact (List.nil_perm.1 h).symm
  | cons a A ih =>
    intro B h h1 h2
    cases B with
    | nil => exact absurd (List.perm_nil.1 h) (by simp)
    | cons b B =>
      have e : a = b := by
        unfold Srt at h1 h2
        rw [List.pairwise_cons] at h1 h2
        have ha := h.subset (List.mem_cons_self (a := a) (l := A))
        have hb := h.symm.subset (List.mem_cons_self (a := b) (l := B))
        rcases List.mem_cons.1 ha with e | ha
        · exact e
        · rcases List.mem_cons.1 hb with e | hb
          · exact e.symm
          · exact absurd (h1.1 b hb) (h2.1 a ha).asymm
      subst e
      unfold Srt at h1 h2
      rw [List.pairwise_cons] at h1 h2
      rw [ih ((List.perm_cons _).1 h) h1.2 h2.2]

/-- Two merges side by side are one merge. -/
theorem srt_merge {ky : Int → Int} {L1 L2 R1 R2 A B : List Int} (hL : Srt ky (L1 ++ L2)) (hR : Srt ky (R1 ++ R2)) (h1 : A.Perm (L1 ++ R1)) (h2 : Srt ky A) (h3 : B.Perm (L2 ++ R2)) (h4 : Srt ky B)
    (h5 : ∀ x ∈ L1, ∀ y ∈ R2, slt ky x y) (h6 : ∀ x ∈ R1, ∀ y ∈ L2, slt ky x y) : Srt ky (A ++ B) ∧ (A ++ B).Perm ((L1 ++ L2) ++ (R1 ++ R2)) := by
  refine ⟨srt_app h2 h4 fun x hx y hy => ?_, ?_⟩
  · rcases List.mem_append.1 (h1.subset hx) with hx | hx <;> rcases List.mem_append.1 (h3.subset hy) with hy | hy
    · exact hL.cross x hx y hy
    · exact h5 x hx y hy
    · exact h6 x hx y hy
    · exact hR.cross x hx y hy
  · refine (h1.append h3).trans ?_
    simp only [List.append_assoc]
    refine List.Perm.append_left _ ?_
    rw [← List.append_assoc, ← List.append_assoc]
    exact List.Perm.append_right _ List.perm_append_comm

/-- In a sorted list the elements up to one whose key is at most k have keys of at most k. -/
theorem srt_upto {ky : Int → Int} {A : List Int} {x y : Int} (h : Srt ky (A ++ [x])) (hy : y ∈ A ++ [x]) : ky y ≤ ky x := by
  rcases List.mem_append.1 hy with hy | hy
  · exact (h.cross y hy x (by simp)).le
  · simp at hy; subst hy; exact Int.le_refl _

/-- Two cells changed for one another. -/
theorem sw_mid (P Q S : List Int) (x y : Int) : ((P ++ x :: (Q ++ y :: S)).set P.length y).set (P.length + 1 + Q.length) x = P ++ y :: (Q ++ x :: S) := by
  rw [set_mid P _ x y rfl]
  rw [show P ++ y :: (Q ++ y :: S) = (P ++ y :: Q) ++ y :: S by simp, set_mid (P ++ y :: Q) S y x (by simp; omega)]
  simp
theorem sw_adj (P S : List Int) (x y : Int) : ((P ++ x :: y :: S).set P.length y).set (P.length + 1) x = P ++ y :: x :: S := by
  simp
theorem sw_adj' (P S : List Int) (x y : Int) : ((P ++ x :: y :: S).set (P.length + 1) x).set P.length y = P ++ y :: x :: S := by
  rw [show P ++ x :: y :: S = (P ++ [x]) ++ y :: S by simp, set_mid (P ++ [x]) S y x (by simp)]
  rw [show (P ++ [x]) ++ x :: S = P ++ x :: (x :: S) by simp, set_mid P _ x y rfl]

/-- What the comparison answers. -/
def CmpOk (g : Nat) (c : D) (ky : Int → Int) (p : Int → Prop) : Prop :=
  ∀ a b, p a → p b → Gw TT g [vi a, vi b, .one (.ro true (.rp [c]))] = some (vi (icmp (ky a) (ky b)), [])

abbrev fv (g : Nat) (c : D) : V := .one (.ro true (.fn g [c]))
abbrev dat (l : List Int) : V := .one (.own (.sl 1 (l.map ei)))
abbrev lft (l : List Int) : V × List (Nat × Nat × C) := (.tup [], [(0, 0, .own (.sl 1 (l.map ei)))])

theorem s406 {g : Nat} {c : D} {ky : Int → Int} {p : Int → Prop} (hcmp : CmpOk g c ky p) (P W S : List Int) (hp : ∀ x ∈ W, p x) (hlen : (P ++ W ++ S).length ≤ 1099511627776) (hW : W.Pairwise (· < ·)) :
    ∃ W', W'.Perm W ∧ Srt ky W' ∧ Gw TT 406 [dat (P ++ W ++ S), vi P.length, vi (P.length + W.length), fv g c] = some (lft (P ++ W' ++ S)) := by
  suffices h : ∃ y, Gw TT 406 [dat (P ++ W ++ S), vi P.length, vi (P.length + W.length), fv g c] = some y ∧ ∃ W', W'.Perm W ∧ Srt ky W' ∧ y = lft (P ++ W' ++ S) by
    obtain ⟨y, h1, W', h2, h3, rfl⟩ := h
    exact ⟨W', h2, h3, h1⟩
  refine Gw_ofE (F := pf406) rfl rfl ?_
  show Wp _ pb406 _ _
  unfold pb406
  simp only [List.length_append] at hlen
  have hw0 : IntKind.wrap .i64 ((P.length : Int) + 1) = (P.length : Int) + 1 := wrap_i64 (by omega) (by omega)
  rcases W with _ | ⟨x0, W⟩
  · have hn : ¬ ((P.length : Int) + 1 < (P.length : Int) + ((0 : Nat) : Int)) := by omega
    repeat' (first
      | with_reducible (first | refine wp_seq ?_ | refine wp_blk ?_ | refine wp_skip ?_ | refine wp_exit ?_ | refine wp_ret ?_ | refine seqQ_norm ?_ | refine seqQ_ret ?_ | refine seqQ_exit ?_ | refine blkQ_norm ?_ | refine blkQ_ret ?_ | refine blkQ_exit ?_ | refine loopQ_norm ?_ | refine loopQ_exit ?_ | refine loopQ_ret ?_ | refine endQ_ret ?_ | refine endQ_norm ?_ | refine endE_ret ?_ | refine endE_norm ?_ | refine endI_ret ?_ | refine endI_norm ?_)
      | (with_reducible refine wp_loop (c := pl406_1) ?_
         conv => arg 2; unfold pl406_1)
      | (with_reducible refine wp_regK fun K hK => ?_
         simp[hw0, hn]
         repeat' (with_reducible first | refine hK _ ?_ | (refine psel ?_ ?_ <;> (intro hc; (try rw [Decidable.not_not] at hc); first | (exfalso; omega) | (try simp [hc, hw0, hn]))))
         all_goals (clear hK; clear K))
      | (with_reducible refine wp_condE ?_
         refine ⟨_, rfl, ?_, ?_⟩ <;> (intro hc; (try simp at hc); (all_goals first | (exfalso; omega) | skip))))
    all_goals exact ⟨_, rfl, [], by simp, by simp [Srt], by simp⟩
  generalize hW0 : x0 :: W = W0 at *
  have hb : (P.length : Int) + W0.length = (P.length : Int) + 1 + W.length := by subst hW0; simp; omega
  repeat' (first
    | with_reducible (first | refine wp_seq ?_ | refine wp_blk ?_ | refine wp_skip ?_ | refine wp_exit ?_ | refine wp_ret ?_ | refine seqQ_norm ?_ | refine seqQ_ret ?_ | refine seqQ_exit ?_ | refine blkQ_norm ?_ | refine blkQ_ret ?_ | refine blkQ_exit ?_ | refine loopQ_norm ?_ | refine loopQ_exit ?_ | refine loopQ_ret ?_ | refine endQ_ret ?_ | refine endQ_norm ?_ | refine endE_ret ?_ | refine endE_norm ?_ | refine endI_ret ?_ | refine endI_norm ?_)
    | (with_reducible refine wp_regK fun K hK => ?_
       simp[hw0]
       repeat' (with_reducible first | refine hK _ ?_ | (refine psel ?_ ?_ <;> (intro hc; (try rw [Decidable.not_not] at hc); first | (exfalso; omega) | (try simp [hc, hw0]))))
       all_goals (clear hK; clear K))
    | (with_reducible refine wp_condE ?_
       refine ⟨_, rfl, ?_, ?_⟩ <;> (intro hc; (try simp at hc); (all_goals first | (exfalso; omega) | skip))))
  refine wp_loopI (σ := List Int × List Int) (fun s => [(0, AV.pl 0 0 [], some (Rt.vir [C.own (D.sl 1 ((P ++ s.1 ++ s.2 ++ S).map ei))])), (1, AV.v false (di P.length), none), (2, AV.v false (di (P.length + W0.length)), none), (3, AV.v true (.fn g [c]), none), (8, AV.v false (di (P.length + s.1.length)), none)])
    (fun s => ∃ U, W0 = U ++ s.2 ∧ s.1.Perm U ∧ Srt ky s.1 ∧ s.1 ≠ []) (fun s => s.2.length) ([x0], W) (by simp [← hW0]) ⟨[x0], by simp [← hW0], .refl _, by simp [Srt], by simp⟩ ?_
  rintro ⟨Dn, R⟩ ⟨U, h1, h2, h3, h4⟩
  simp only at h1 h2 h3 h4
  have hDU := h2.length_eq
  have hl : W0.length = Dn.length + R.length := by rw [h1]; simp [hDU]
  unfold pl406_1
  rcases R with _ | ⟨x, R⟩
  · have hn : ¬ ((P.length : Int) + Dn.length < (P.length : Int) + W0.length) := by simp at hl; omega
    repeat' (first
      | with_reducible (first | refine wp_seq ?_ | refine wp_blk ?_ | refine wp_skip ?_ | refine wp_exit ?_ | refine wp_ret ?_ | refine seqQ_norm ?_ | refine seqQ_ret ?_ | refine seqQ_exit ?_ | refine blkQ_norm ?_ | refine blkQ_ret ?_ | refine blkQ_exit ?_ | refine loopQ_norm ?_ | refine loopQ_exit ?_ | refine loopQ_ret ?_ | refine endQ_ret ?_ | refine endQ_norm ?_ | refine endE_ret ?_ | refine endE_norm ?_ | refine endI_ret ?_ | refine endI_norm ?_)
      | (with_reducible refine wp_regK fun K hK => ?_
         simp[hn]
         repeat' (with_reducible first | refine hK _ ?_ | (refine psel ?_ ?_ <;> (intro hc; (try rw [Decidable.not_not] at hc); first | (exfalso; omega) | (try simp [hc, hn]))))
         all_goals (clear hK; clear K))
      | (with_reducible refine wp_condE ?_
         refine ⟨_, rfl, ?_, ?_⟩ <;> (intro hc; (try simp at hc); (all_goals first | (exfalso; omega) | skip))))
    all_goals exact ⟨_, by simp [pf406]; rfl, Dn, by simpa [h1] using h2, h3, by simp⟩
  · simp only [List.length_cons] at hl
    have hn : ((P.length : Int) + Dn.length < (P.length : Int) + W0.length) := by omega
    repeat' (first
      | with_reducible (first | refine wp_seq ?_ | refine wp_blk ?_ | refine wp_skip ?_ | refine wp_exit ?_ | refine wp_ret ?_ | refine seqQ_norm ?_ | refine seqQ_ret ?_ | refine seqQ_exit ?_ | refine blkQ_norm ?_ | refine blkQ_ret ?_ | refine blkQ_exit ?_ | refine loopQ_norm ?_ | refine loopQ_exit ?_ | refine loopQ_ret ?_ | refine endQ_ret ?_ | refine endQ_norm ?_ | refine endE_ret ?_ | refine endE_norm ?_ | refine endI_ret ?_ | refine endI_norm ?_)
      | (with_reducible refine wp_regK fun K hK => ?_
         simp[hn]
         repeat' (with_reducible first | refine hK _ ?_ | (refine psel ?_ ?_ <;> (intro hc; (try rw [Decidable.not_not] at hc); first | (exfalso; omega) | (try simp [hc, hn]))))
         all_goals (clear hK; clear K))
      | (with_reducible refine wp_condE ?_
         refine ⟨_, rfl, ?_, ?_⟩ <;> (intro hc; (try simp at hc); (all_goals first | (exfalso; omega) | skip))))
    refine wp_loopI (σ := List Int × List Int) (fun s => [(0, AV.pl 0 0 [], some (Rt.vir [C.own (D.sl 1 ((P ++ s.1 ++ x :: s.2 ++ R ++ S).map ei))])), (1, AV.v false (di P.length), none), (2, AV.v false (di (P.length + W0.length)), none), (3, AV.v true (.fn g [c]), none), (8, AV.v false (di (P.length + Dn.length)), none), (9, AV.v false (di (P.length + s.1.length)), none)])
      (fun s => Dn = s.1 ++ s.2 ∧ ∀ v ∈ s.2, ky x < ky v) (fun s => s.1.length) (Dn, []) (by simp) ⟨by simp, by simp⟩ ?_
    rintro ⟨A, B⟩ ⟨k1, k2⟩
    simp only at k1 k2
    have hw1 : IntKind.wrap .i64 ((P.length : Int) + Dn.length + 1) = (P.length : Int) + Dn.length + 1 := wrap_i64 (by omega) (by omega)
    have hxU : ∀ u ∈ Dn, u < x := fun u hu => (List.pairwise_append.1 (h1 ▸ hW)).2.2 u (h2.subset hu) x (by simp)
    have hpx : p x := hp x (by rw [h1]; simp)
    have hfin : (∀ u ∈ A, slt ky u x) → ∃ U2, W0 = U2 ++ R ∧ (A ++ x :: B).Perm U2 ∧ Srt ky (A ++ x :: B) ∧ A ++ x :: B ≠ [] := fun hA =>
      ⟨U ++ [x], by simp [h1], by
        refine (List.perm_middle).trans (.trans ?_ (List.perm_append_singleton x U).symm)
        rw [← k1]; exact h2.cons x, srt_ins (by rw [← k1]; exact h3) (fun v hv => .inl (k2 v hv)) hA, by simp⟩
    unfold pl406_0
    rcases List.eq_nil_or_concat A with rfl | ⟨A, y, rfl⟩
    · have hn2 : ¬ ((P.length : Int) + ((0 : Nat) : Int) > (P.length : Int)) := by omega
      repeat' (first
        | with_reducible (first | refine wp_seq ?_ | refine wp_blk ?_ | refine wp_skip ?_ | refine wp_exit ?_ | refine wp_ret ?_ | refine seqQ_norm ?_ | refine seqQ_ret ?_ | refine seqQ_exit ?_ | refine blkQ_norm ?_ | refine blkQ_ret ?_ | refine blkQ_exit ?_ | refine loopQ_norm ?_ | refine loopQ_exit ?_ | refine loopQ_ret ?_ | refine endQ_ret ?_ | refine endQ_norm ?_ | refine endE_ret ?_ | refine endE_norm ?_ | refine endI_ret ?_ | refine endI_norm ?_)
        | (with_reducible refine wp_regK fun K hK => ?_
           simp[hn2]
           repeat' (with_reducible first | refine hK _ ?_ | (refine psel ?_ ?_ <;> (intro hc; (try rw [Decidable.not_not] at hc); first | (exfalso; omega) | (try simp [hc, hn2]))))
           all_goals (clear hK; clear K))
        | (with_reducible refine wp_condE ?_
           refine ⟨_, rfl, ?_, ?_⟩ <;> (intro hc; (try simp at hc); (all_goals first | (exfalso; omega) | skip))))
      all_goals exact ⟨(x :: B, R), by simp only [hw1]; simp [k1]; omega, hfin (by simp), by simp⟩
    · simp only [List.concat_eq_append, List.append_assoc, List.cons_append, List.nil_append] at k1 hfin ⊢
      have hpy : p y := hp y (by rw [h1]; exact List.mem_append_left _ (h2.subset (by rw [k1]; simp)))
      have hcx := hcmp x y hpx hpy
      have hyx : y < x := hxU y (by rw [k1]; simp)
      have e1 : P ++ (A ++ y :: x :: (B ++ (R ++ S))) = (P ++ A) ++ y :: x :: (B ++ (R ++ S)) := by simp
      have e2 : (P.length : Int) + ((A ++ [y]).length : Nat) = ((P ++ A).length : Int) + 1 := by simp; omega
      have e3 : (P.length : Int) < ((P ++ A).length : Int) + 1 := by simp; omega
      have e4 : ((P ++ A).length : Int) = P.length + A.length := by simp
      have e5 : (P ++ A).length ≤ 1099511627776 := by simp; rw [k1] at hl; simp at hl; omega
      simp only [e1, e2]
      generalize hQ : P ++ A = Q at e3 e4 e5 ⊢
      generalize hZ : B ++ (R ++ S) = Z
      have hw2 : IntKind.wrap .i64 ((Q.length : Int) + 1 - 1) = (Q.length : Int) := by rw [Int.add_sub_cancel]; exact wrap_i64 (by omega) (by omega)
      have hw3 : IntKind.wrap .i64 (Q.length : Int) = (Q.length : Int) := wrap_i64 (by omega) (by omega)
      have hg1 : (Q.map ei ++ [di y] :: [di x] :: Z.map ei)[Q.length + 1]? = some [di x] := by rw [show Q.map ei ++ [di y] :: [di x] :: Z.map ei = (Q.map ei ++ [[di y]]) ++ [di x] :: Z.map ei by simp]; exact get_mid _ _ _ (by simp)
      have hs1 : (Q.map ei ++ [di y] :: [di x] :: Z.map ei).set (Q.length + 1) [di y] = Q.map ei ++ [di y] :: [di y] :: Z.map ei := by rw [show Q.map ei ++ [di y] :: [di x] :: Z.map ei = (Q.map ei ++ [[di y]]) ++ [di x] :: Z.map ei by simp, set_mid _ _ _ _ (by simp)]; simp
      have hb1 : (Q.length : Int) < (Q.length : Int) + ((Z.length : Int) + 1 + 1) := by omega
      have hb2 : (Q.length : Int) + 1 < (Q.length : Int) + ((Z.length : Int) + 1 + 1) := by omega
      by_cases hlt : icmp (ky x) (ky y) < 0
      · repeat' (first
          | with_reducible (first | refine wp_seq ?_ | refine wp_blk ?_ | refine wp_skip ?_ | refine wp_exit ?_ | refine wp_ret ?_ | refine seqQ_norm ?_ | refine seqQ_ret ?_ | refine seqQ_exit ?_ | refine blkQ_norm ?_ | refine blkQ_ret ?_ | refine blkQ_exit ?_ | refine loopQ_norm ?_ | refine loopQ_exit ?_ | refine loopQ_ret ?_ | refine endQ_ret ?_ | refine endQ_norm ?_ | refine endE_ret ?_ | refine endE_norm ?_ | refine endI_ret ?_ | refine endI_norm ?_)
          | (with_reducible refine wp_regK fun K hK => ?_
             simp[e3, hcx, hlt, hw2, hw3, hg1, hs1, hb1, hb2]
             repeat' (with_reducible first | refine hK _ ?_ | (refine psel ?_ ?_ <;> (intro hc; (try rw [Decidable.not_not] at hc); first | (exfalso; omega) | (try simp [hc, e3, hcx, hlt, hw2, hw3, hg1, hs1, hb1, hb2]))))
             all_goals (clear hK; clear K))
          | (with_reducible refine wp_condE ?_
             refine ⟨_, rfl, ?_, ?_⟩ <;> (intro hc; (try simp at hc); (all_goals first | (exfalso; omega) | skip))))
        all_goals exact ⟨(A, y :: B), by simp only [← hQ, ← hZ]; simp, ⟨k1, fun v hv => by
          rcases List.mem_cons.1 hv with rfl | hv
          · exact (icmp_neg _ _).1 hlt
          · exact k2 v hv⟩, by simp⟩
      · repeat' (first
          | with_reducible (first | refine wp_seq ?_ | refine wp_blk ?_ | refine wp_skip ?_ | refine wp_exit ?_ | refine wp_ret ?_ | refine seqQ_norm ?_ | refine seqQ_ret ?_ | refine seqQ_exit ?_ | refine blkQ_norm ?_ | refine blkQ_ret ?_ | refine blkQ_exit ?_ | refine loopQ_norm ?_ | refine loopQ_exit ?_ | refine loopQ_ret ?_ | refine endQ_ret ?_ | refine endQ_norm ?_ | refine endE_ret ?_ | refine endE_norm ?_ | refine endI_ret ?_ | refine endI_norm ?_)
          | (with_reducible refine wp_regK fun K hK => ?_
             simp[e3, hcx, hlt, hw2, hw3, hg1, hs1, hb1, hb2]
             repeat' (with_reducible first | refine hK _ ?_ | (refine psel ?_ ?_ <;> (intro hc; (try rw [Decidable.not_not] at hc); first | (exfalso; omega) | (try simp [hc, e3, hcx, hlt, hw2, hw3, hg1, hs1, hb1, hb2]))))
             all_goals (clear hK; clear K))
          | (with_reducible refine wp_condE ?_
             refine ⟨_, rfl, ?_, ?_⟩ <;> (intro hc; (try simp at hc); (all_goals first | (exfalso; omega) | skip))))
        all_goals exact ⟨(A ++ y :: x :: B, R), by simp only [hw1, ← hQ, ← hZ]; simp [k1]; omega, hfin (fun u hu => by
          have h5 : ¬ ky x < ky y := fun h => hlt ((icmp_neg _ _).2 h)
          have h6 : ky u ≤ ky y := srt_upto (A := A) (Srt.left (B := B) (by simpa [← k1] using h3)) hu
          have h7 : u < x := hxU u (by rw [k1]; simp at hu ⊢; rcases hu with h | h <;> simp [h])
          exact slt_of_le (by omega) h7), by simp⟩

theorem sw_map (U V Z : List Int) (x y : Int) {k1 k2 : Nat} (h1 : k1 = U.length) (h2 : k2 = U.length + 1 + V.length) :
    (((U ++ x :: (V ++ y :: Z)).map ei).set k1 [di y]).set k2 [di x] = (U ++ y :: (V ++ x :: Z)).map ei := by
  subst h1 h2
  have e : ∀ z : Int, [di z] = ei z := fun _ => rfl
  rw [e, e, ← List.map_set, ← List.map_set, sw_mid]

theorem sw_map' (U V Z : List Int) (x y : Int) {k1 k2 : Nat} (h1 : k1 = U.length) (h2 : k2 = U.length + 1 + V.length) :
    (((U ++ x :: (V ++ y :: Z)).map ei).set k2 [di x]).set k1 [di y] = (U ++ y :: (V ++ x :: Z)).map ei := by
  rw [List.set_comm _ _ (by omega)]
  exact sw_map U V Z x y h1 h2

theorem sw_get1 (U V Z : List Int) (x y : Int) {k1 : Nat} (h1 : k1 = U.length) : ((U ++ x :: (V ++ y :: Z)).map ei)[k1]? = some [di x] := by subst h1; simp
theorem sw_get2 (U V Z : List Int) (x y : Int) {k2 : Nat} (h2 : k2 = U.length + 1 + V.length) : ((U ++ x :: (V ++ y :: Z)).map ei)[k2]? = some [di y] := by
  rw [show U ++ x :: (V ++ y :: Z) = (U ++ x :: V) ++ y :: Z by simp, List.map_append, List.map_cons]
  exact get_mid _ _ _ (by simp; omega)

end Go.Proofs.Ytbfmbddafpbcpaa.OM
