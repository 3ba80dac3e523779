/- What the functions answer. -/
import Derived.Test.YtkhgflloifjniaaOMTypes
import Derived.Test.YtkhgflloifjniaaOMTac2
import Derived.Test.YtkhgflloifjniaaXSwapRefsPc0
set_option linter.all false
namespace Go.Proofs.Ytkhgflloifjniaa.OM
set_option maxHeartbeats 4000000
set_option maxRecDepth 100000

def tab : List (Nat × PF) := [(15, pf15), (16, pf16), (22, pf22), (56, pf56), (71, pf71), (74, pf74), (82, pf82), (87, pf87), (130, pf130), (151, pf151), (156, pf156), (157, pf157), (174, pf174), (177, pf177), (189, pf189), (192, pf192), (218, pf218), (223, pf223), (243, pf243), (248, pf248), (249, pf249), (271, pf271), (296, pf296), (337, pf337), (368, pf368), (370, pf370), (377, pf377)]
def TT (k : Nat) : Option PF := tab.lookup k

@[simp] theorem t248 (x_Buf : Int) (x_Gen : Int) (x_Kind : Int) (x_First : Int) (x_Many : Int)  : Gw TT 248 [.st [.ro false (di x_Buf), .ro false (di x_Gen), .ro false (di x_Kind), .ro false (di x_First), .ro false (di x_Many)]] = some (.st [.ro false (di x_Buf), .ro false (di x_Gen), .ro false (di x_Kind), .ro false (di x_First), .ro false (di x_Many)], []) := by
  refine Gw_of (F := pf248) rfl rfl ?_
  show Wp _ pb248 _ _
  unfold pb248
  repeat' (first
    | with_reducible (first | refine wp_seq ?_ | refine wp_blk ?_ | refine wp_skip ?_ | refine wp_exit ?_ | refine wp_ret ?_ | refine seqQ_norm ?_ | refine seqQ_ret ?_ | refine seqQ_exit ?_ | refine blkQ_norm ?_ | refine blkQ_ret ?_ | refine blkQ_exit ?_ | refine loopQ_norm ?_ | refine loopQ_exit ?_ | refine loopQ_ret ?_ | refine endQ_ret ?_ | refine endQ_norm ?_ | refine endE_ret ?_ | refine endE_norm ?_ | refine endI_ret ?_ | refine endI_norm ?_)
    | (with_reducible refine wp_regK fun K hK => ?_
       simp
       repeat' (with_reducible first | refine hK _ ?_ | (refine psel ?_ ?_ <;> (intro hc; (try rw [Decidable.not_not] at hc); first | (exfalso; omega) | (try simp [hc]))))
       all_goals (clear hK; clear K))
    | (with_reducible refine wp_condE ?_
       refine ⟨_, rfl, ?_, ?_⟩ <;> (intro hc; (try simp at hc); (all_goals first | (exfalso; omega) | skip))))
  all_goals simp [pf248]

@[simp] theorem t249 (k0 : Bool) (l : List XRef) (h : l.length ≤ 1048576)  : Gw TT 249 [.one (.ro k0 (.sl 5 (l.map XRef.e)))] = some (.one (.own (.sl 5 (l.map XRef.e))), []) := by
  refine Gw_of (F := pf249) rfl rfl ?_
  show Wp _ pb249 _ _
  unfold pb249
  repeat' (first
    | with_reducible (first | refine wp_seq ?_ | refine wp_blk ?_ | refine wp_skip ?_ | refine wp_exit ?_ | refine wp_ret ?_ | refine seqQ_norm ?_ | refine seqQ_ret ?_ | refine seqQ_exit ?_ | refine blkQ_norm ?_ | refine blkQ_ret ?_ | refine blkQ_exit ?_ | refine loopQ_norm ?_ | refine loopQ_exit ?_ | refine loopQ_ret ?_ | refine endQ_ret ?_ | refine endQ_norm ?_ | refine endE_ret ?_ | refine endE_norm ?_ | refine endI_ret ?_ | refine endI_norm ?_)
    | (with_reducible refine wp_regK fun K hK => ?_
       simp
       repeat' (with_reducible first | refine hK _ ?_ | (refine psel ?_ ?_ <;> (intro hc; (try rw [Decidable.not_not] at hc); first | (exfalso; omega) | (try simp [hc]))))
       all_goals (clear hK; clear K))
    | (with_reducible refine wp_condE ?_
       refine ⟨_, rfl, ?_, ?_⟩ <;> (intro hc; (try simp at hc); (all_goals first | (exfalso; omega) | skip))))
  · refine wp_loopI (σ := List XRef × List XRef) (fun s => [(0, AV.v k0 (D.sl 5 (List.map XRef.e l)), none), (3, AV.pl 3 0 [], some (Rt.vir [C.own (D.sl 5 (s.1.map XRef.e ++ List.replicate s.2.length [.int .i64 0, .int .i64 0, .int .i64 0, .int .i64 0, .int .i64 0]))])), (4, AV.v false (di (s.1.length : Nat)), none)]) (fun s => l = s.1 ++ s.2) (fun s => s.2.length) ([], l) (by simp) rfl ?_
    rintro ⟨pre, rest⟩ h1
    simp only at h1
    subst h1
    simp only [List.length_append, List.length_cons] at h
    rcases rest with _ | ⟨⟨y_Buf, y_Gen, y_Kind, y_First, y_Many⟩, rest⟩
    · unfold pl249_0
      repeat' (first
        | with_reducible (first | refine wp_seq ?_ | refine wp_blk ?_ | refine wp_skip ?_ | refine wp_exit ?_ | refine wp_ret ?_ | refine seqQ_norm ?_ | refine seqQ_ret ?_ | refine seqQ_exit ?_ | refine blkQ_norm ?_ | refine blkQ_ret ?_ | refine blkQ_exit ?_ | refine loopQ_norm ?_ | refine loopQ_exit ?_ | refine loopQ_ret ?_ | refine endQ_ret ?_ | refine endQ_norm ?_ | refine endE_ret ?_ | refine endE_norm ?_ | refine endI_ret ?_ | refine endI_norm ?_)
        | (with_reducible refine wp_regK fun K hK => ?_
           simp
           repeat' (with_reducible first | refine hK _ ?_ | (refine psel ?_ ?_ <;> (intro hc; (try rw [Decidable.not_not] at hc); first | (exfalso; omega) | (try simp [hc]))))
           all_goals (clear hK; clear K))
        | (with_reducible refine wp_condE ?_
           refine ⟨_, rfl, ?_, ?_⟩ <;> (intro hc; (try simp at hc); (all_goals first | (exfalso; omega) | skip))))
      all_goals simp [pf249]
    · unfold pl249_0
      simp only [List.length_cons] at h
      have hw : IntKind.wrap .i64 ((pre.length : Int) + 1) = (pre.length : Int) + 1 := wrap_i64 (by omega) (by omega)
      repeat' (first
        | with_reducible (first | refine wp_seq ?_ | refine wp_blk ?_ | refine wp_skip ?_ | refine wp_exit ?_ | refine wp_ret ?_ | refine seqQ_norm ?_ | refine seqQ_ret ?_ | refine seqQ_exit ?_ | refine blkQ_norm ?_ | refine blkQ_ret ?_ | refine blkQ_exit ?_ | refine loopQ_norm ?_ | refine loopQ_exit ?_ | refine loopQ_ret ?_ | refine endQ_ret ?_ | refine endQ_norm ?_ | refine endE_ret ?_ | refine endE_norm ?_ | refine endI_ret ?_ | refine endI_norm ?_)
        | (with_reducible refine wp_regK fun K hK => ?_
           simp[List.replicate_succ, hw]
           repeat' (with_reducible first | refine hK _ ?_ | (refine psel ?_ ?_ <;> (intro hc; (try rw [Decidable.not_not] at hc); first | (exfalso; omega) | (try simp [hc, List.replicate_succ, hw]))))
           all_goals (clear hK; clear K))
        | (with_reducible refine wp_condE ?_
           refine ⟨_, rfl, ?_, ?_⟩ <;> (intro hc; (try simp at hc); (all_goals first | (exfalso; omega) | skip))))
      all_goals exact ⟨(pre ++ [⟨y_Buf, y_Gen, y_Kind, y_First, y_Many⟩], rest), by simp, by simp, by simp⟩

@[simp] theorem t156 (x_Buf : Int) (x_Gen : Int) (x_Kind : Int) (x_First : Int) (x_Many : Int)  : Gw TT 156 [.st [.ro false (di x_Buf), .ro false (di x_Gen), .ro false (di x_Kind), .ro false (di x_First), .ro false (di x_Many)], .st [.ro false (di x_Buf), .ro false (di x_Gen), .ro false (di x_Kind), .ro false (di x_First), .ro false (di x_Many)]] = some (vb true, []) := by
  refine Gw_of (F := pf156) rfl rfl ?_
  show Wp _ pb156 _ _
  unfold pb156
  repeat' (first
    | with_reducible (first | refine wp_seq ?_ | refine wp_blk ?_ | refine wp_skip ?_ | refine wp_exit ?_ | refine wp_ret ?_ | refine seqQ_norm ?_ | refine seqQ_ret ?_ | refine seqQ_exit ?_ | refine blkQ_norm ?_ | refine blkQ_ret ?_ | refine blkQ_exit ?_ | refine loopQ_norm ?_ | refine loopQ_exit ?_ | refine loopQ_ret ?_ | refine endQ_ret ?_ | refine endQ_norm ?_ | refine endE_ret ?_ | refine endE_norm ?_ | refine endI_ret ?_ | refine endI_norm ?_)
    | (with_reducible refine wp_regK fun K hK => ?_
       simp
       repeat' (with_reducible first | refine hK _ ?_ | (refine psel ?_ ?_ <;> (intro hc; (try rw [Decidable.not_not] at hc); first | (exfalso; omega) | (try simp [hc]))))
       all_goals (clear hK; clear K))
    | (with_reducible refine wp_condE ?_
       refine ⟨_, rfl, ?_, ?_⟩ <;> (intro hc; (try simp at hc); (all_goals first | (exfalso; omega) | skip))))
  all_goals simp [pf156]

@[simp] theorem t157 (k0 k1 : Bool) (l : List XRef) (h : l.length ≤ 1048576)  : Gw TT 157 [.one (.ro k0 (.sl 5 (l.map XRef.e))), .one (.ro k1 (.sl 5 (l.map XRef.e)))] = some (vb true, []) := by
  refine Gw_of (F := pf157) rfl rfl ?_
  show Wp _ pb157 _ _
  unfold pb157
  repeat' (first
    | with_reducible (first | refine wp_seq ?_ | refine wp_blk ?_ | refine wp_skip ?_ | refine wp_exit ?_ | refine wp_ret ?_ | refine seqQ_norm ?_ | refine seqQ_ret ?_ | refine seqQ_exit ?_ | refine blkQ_norm ?_ | refine blkQ_ret ?_ | refine blkQ_exit ?_ | refine loopQ_norm ?_ | refine loopQ_exit ?_ | refine loopQ_ret ?_ | refine endQ_ret ?_ | refine endQ_norm ?_ | refine endE_ret ?_ | refine endE_norm ?_ | refine endI_ret ?_ | refine endI_norm ?_)
    | (with_reducible refine wp_regK fun K hK => ?_
       simp
       repeat' (with_reducible first | refine hK _ ?_ | (refine psel ?_ ?_ <;> (intro hc; (try rw [Decidable.not_not] at hc); first | (exfalso; omega) | (try simp [hc]))))
       all_goals (clear hK; clear K))
    | (with_reducible refine wp_condE ?_
       refine ⟨_, rfl, ?_, ?_⟩ <;> (intro hc; (try simp at hc); (all_goals first | (exfalso; omega) | skip))))
  · refine wp_loopI (σ := List XRef × List XRef) (fun s => [(0, AV.v k0 (D.sl 5 (List.map XRef.e l)), none), (1, AV.v k1 (D.sl 5 (List.map XRef.e l)), none), (5, AV.v false (di (s.1.length : Nat)), none)]) (fun s => l = s.1 ++ s.2) (fun s => s.2.length) ([], l) (by simp) rfl ?_
    rintro ⟨pre, rest⟩ h1
    simp only at h1
    subst h1
    simp only [List.length_append, List.length_cons] at h
    rcases rest with _ | ⟨⟨y_Buf, y_Gen, y_Kind, y_First, y_Many⟩, rest⟩
    · unfold pl157_0
      repeat' (first
        | with_reducible (first | refine wp_seq ?_ | refine wp_blk ?_ | refine wp_skip ?_ | refine wp_exit ?_ | refine wp_ret ?_ | refine seqQ_norm ?_ | refine seqQ_ret ?_ | refine seqQ_exit ?_ | refine blkQ_norm ?_ | refine blkQ_ret ?_ | refine blkQ_exit ?_ | refine loopQ_norm ?_ | refine loopQ_exit ?_ | refine loopQ_ret ?_ | refine endQ_ret ?_ | refine endQ_norm ?_ | refine endE_ret ?_ | refine endE_norm ?_ | refine endI_ret ?_ | refine endI_norm ?_)
        | (with_reducible refine wp_regK fun K hK => ?_
           simp
           repeat' (with_reducible first | refine hK _ ?_ | (refine psel ?_ ?_ <;> (intro hc; (try rw [Decidable.not_not] at hc); first | (exfalso; omega) | (try simp [hc]))))
           all_goals (clear hK; clear K))
        | (with_reducible refine wp_condE ?_
           refine ⟨_, rfl, ?_, ?_⟩ <;> (intro hc; (try simp at hc); (all_goals first | (exfalso; omega) | skip))))
      all_goals simp [pf157]
    · unfold pl157_0
      simp only [List.length_cons] at h
      have hw : IntKind.wrap .i64 ((pre.length : Int) + 1) = (pre.length : Int) + 1 := wrap_i64 (by omega) (by omega)
      repeat' (first
        | with_reducible (first | refine wp_seq ?_ | refine wp_blk ?_ | refine wp_skip ?_ | refine wp_exit ?_ | refine wp_ret ?_ | refine seqQ_norm ?_ | refine seqQ_ret ?_ | refine seqQ_exit ?_ | refine blkQ_norm ?_ | refine blkQ_ret ?_ | refine blkQ_exit ?_ | refine loopQ_norm ?_ | refine loopQ_exit ?_ | refine loopQ_ret ?_ | refine endQ_ret ?_ | refine endQ_norm ?_ | refine endE_ret ?_ | refine endE_norm ?_ | refine endI_ret ?_ | refine endI_norm ?_)
        | (with_reducible refine wp_regK fun K hK => ?_
           simp[hw]
           repeat' (with_reducible first | refine hK _ ?_ | (refine psel ?_ ?_ <;> (intro hc; (try rw [Decidable.not_not] at hc); first | (exfalso; omega) | (try simp [hc, hw]))))
           all_goals (clear hK; clear K))
        | (with_reducible refine wp_condE ?_
           refine ⟨_, rfl, ?_, ?_⟩ <;> (intro hc; (try simp at hc); (all_goals first | (exfalso; omega) | skip))))
      all_goals exact ⟨(pre ++ [⟨y_Buf, y_Gen, y_Kind, y_First, y_Many⟩], rest), by simp, by simp, by simp⟩

@[simp] theorem t243 (k0 : Bool) (x_Ver : Int) (x_L : List XRef) (hsm_x_L : x_L.length ≤ 1048576) : Gw TT 243 [.st [.ro false (di x_Ver), .ro k0 (.sl 5 (x_L.map XRef.e))]] = some (.st [.ro false (di x_Ver), .own (.sl 5 (x_L.map XRef.e))], []) := by
  refine Gw_of (F := pf243) rfl rfl ?_
  show Wp _ pb243 _ _
  unfold pb243
  repeat' (first
    | with_reducible (first | refine wp_seq ?_ | refine wp_blk ?_ | refine wp_skip ?_ | refine wp_exit ?_ | refine wp_ret ?_ | refine seqQ_norm ?_ | refine seqQ_ret ?_ | refine seqQ_exit ?_ | refine blkQ_norm ?_ | refine blkQ_ret ?_ | refine blkQ_exit ?_ | refine loopQ_norm ?_ | refine loopQ_exit ?_ | refine loopQ_ret ?_ | refine endQ_ret ?_ | refine endQ_norm ?_ | refine endE_ret ?_ | refine endE_norm ?_ | refine endI_ret ?_ | refine endI_norm ?_)
    | (with_reducible refine wp_regK fun K hK => ?_
       simp[hsm_x_L]
       repeat' (with_reducible first | refine hK _ ?_ | (refine psel ?_ ?_ <;> (intro hc; (try rw [Decidable.not_not] at hc); first | (exfalso; omega) | (try simp [hc, hsm_x_L]))))
       all_goals (clear hK; clear K))
    | (with_reducible refine wp_condE ?_
       refine ⟨_, rfl, ?_, ?_⟩ <;> (intro hc; (try simp at hc); (all_goals first | (exfalso; omega) | skip))))
  all_goals simp [pf243]

@[simp] theorem t151 (k0 k1 : Bool) (x_Ver : Int) (x_L : List XRef) (hok_x_L : x_L.length ≤ 1048576) : Gw TT 151 [.st [.ro false (di x_Ver), .ro k0 (.sl 5 (x_L.map XRef.e))], .st [.ro false (di x_Ver), .ro k1 (.sl 5 (x_L.map XRef.e))]] = some (vb true, []) := by
  refine Gw_of (F := pf151) rfl rfl ?_
  show Wp _ pb151 _ _
  unfold pb151
  repeat' (first
    | with_reducible (first | refine wp_seq ?_ | refine wp_blk ?_ | refine wp_skip ?_ | refine wp_exit ?_ | refine wp_ret ?_ | refine seqQ_norm ?_ | refine seqQ_ret ?_ | refine seqQ_exit ?_ | refine blkQ_norm ?_ | refine blkQ_ret ?_ | refine blkQ_exit ?_ | refine loopQ_norm ?_ | refine loopQ_exit ?_ | refine loopQ_ret ?_ | refine endQ_ret ?_ | refine endQ_norm ?_ | refine endE_ret ?_ | refine endE_norm ?_ | refine endI_ret ?_ | refine endI_norm ?_)
    | (with_reducible refine wp_regK fun K hK => ?_
       simp[hok_x_L]
       repeat' (with_reducible first | refine hK _ ?_ | (refine psel ?_ ?_ <;> (intro hc; (try rw [Decidable.not_not] at hc); first | (exfalso; omega) | (try simp [hc, hok_x_L]))))
       all_goals (clear hK; clear K))
    | (with_reducible refine wp_condE ?_
       refine ⟨_, rfl, ?_, ?_⟩ <;> (intro hc; (try simp at hc); (all_goals first | (exfalso; omega) | skip))))
  all_goals simp [pf151]

theorem t223 (k0 : Bool) (l : List XRef) (left : Int) (h0 : 0 ≤ left) (h1 : left ≤ 1048576) (hl : l.length ≤ 9223372036854775807) :
    ∃ n, Gw TT 223 [.one (.ro k0 (.sl 5 (l.map XRef.e))), vi left] = some (vi n, []) ∧ -1 ≤ n ∧ n ≤ left ∧ (0 ≤ n → l.length ≤ 1048576) := by
  refine Gw_ofI (F := pf223) rfl rfl ?_
  show Wp _ pb223 _ _
  unfold pb223
  have g : IntKind.wrap .i64 (left - (l.length : Int)) = left - (l.length : Int) := wrap_i64 (by omega) (by omega)
  repeat' (first
    | with_reducible (first | refine wp_seq ?_ | refine wp_blk ?_ | refine wp_skip ?_ | refine wp_exit ?_ | refine wp_ret ?_ | refine seqQ_norm ?_ | refine seqQ_ret ?_ | refine seqQ_exit ?_ | refine blkQ_norm ?_ | refine blkQ_ret ?_ | refine blkQ_exit ?_ | refine loopQ_norm ?_ | refine loopQ_exit ?_ | refine loopQ_ret ?_ | refine endQ_ret ?_ | refine endQ_norm ?_ | refine endE_ret ?_ | refine endE_norm ?_ | refine endI_ret ?_ | refine endI_norm ?_)
    | (with_reducible refine wp_regK fun K hK => ?_
       simp[g]
       repeat' (with_reducible first | refine hK _ ?_ | (refine psel ?_ ?_ <;> (intro hc; (try rw [Decidable.not_not] at hc); first | (exfalso; omega) | (try simp [hc, g]))))
       all_goals (clear hK; clear K))
    | (with_reducible refine wp_condE ?_
       refine ⟨_, rfl, ?_, ?_⟩ <;> (intro hc; (try simp at hc); (all_goals first | (exfalso; omega) | skip))))
  · exact ⟨-1, by simp [pf223], by omega, by omega, fun h => absurd h (by omega)⟩
  · exact ⟨left - (l.length : Int), by simp [pf223], by omega, by omega, fun _ => by omega⟩

theorem t218 (k0 : Bool) (x_Ver : Int) (x_L : List XRef) (left : Int) (h0 : 0 ≤ left) (h1 : left ≤ 1048576) (hok_x_L : x_L.length ≤ 9223372036854775807) :
    ∃ n, Gw TT 218 [.st [.ro false (di x_Ver), .ro k0 (.sl 5 (x_L.map XRef.e))], vi left] = some (vi n, []) ∧ -1 ≤ n ∧ n ≤ left ∧ (0 ≤ n → x_L.length ≤ 1048576) := by
  refine Gw_ofI (F := pf218) rfl rfl ?_
  show Wp _ pb218 _ _
  unfold pb218
  obtain ⟨n1, g1, a1, b1, s1⟩ := t223 k0 x_L left (by omega) (by omega) hok_x_L
  repeat' (first
    | with_reducible (first | refine wp_seq ?_ | refine wp_blk ?_ | refine wp_skip ?_ | refine wp_exit ?_ | refine wp_ret ?_ | refine seqQ_norm ?_ | refine seqQ_ret ?_ | refine seqQ_exit ?_ | refine blkQ_norm ?_ | refine blkQ_ret ?_ | refine blkQ_exit ?_ | refine loopQ_norm ?_ | refine loopQ_exit ?_ | refine loopQ_ret ?_ | refine endQ_ret ?_ | refine endQ_norm ?_ | refine endE_ret ?_ | refine endE_norm ?_ | refine endI_ret ?_ | refine endI_norm ?_)
    | (with_reducible refine wp_regK fun K hK => ?_
       simp[g1]
       repeat' (with_reducible first | refine hK _ ?_ | (refine psel ?_ ?_ <;> (intro hc; (try rw [Decidable.not_not] at hc); first | (exfalso; omega) | (try simp [hc, g1]))))
       all_goals (clear hK; clear K))
    | (with_reducible refine wp_condE ?_
       refine ⟨_, rfl, ?_, ?_⟩ <;> (intro hc; (try simp at hc); (all_goals first | (exfalso; omega) | skip))))
  · exact ⟨-1, by simp [pf218], by omega, by omega, fun h => absurd h (by omega)⟩
  · exact ⟨n1, by simp [pf218], by omega, by omega, fun _ => (s1 (by omega))⟩

@[simp] theorem t87 (x a b : Int) : Gw TT 87 [vi x, vi a, vi b] = some (vb (decide (a ≤ x) && decide (x ≤ b)), []) := by
  refine Gw_of (F := pf87) rfl rfl ?_
  show Wp _ pb87 _ _
  unfold pb87
  repeat' (first
    | with_reducible (first | refine wp_seq ?_ | refine wp_blk ?_ | refine wp_skip ?_ | refine wp_exit ?_ | refine wp_ret ?_ | refine seqQ_norm ?_ | refine seqQ_ret ?_ | refine seqQ_exit ?_ | refine blkQ_norm ?_ | refine blkQ_ret ?_ | refine blkQ_exit ?_ | refine loopQ_norm ?_ | refine loopQ_exit ?_ | refine loopQ_ret ?_ | refine endQ_ret ?_ | refine endQ_norm ?_ | refine endE_ret ?_ | refine endE_norm ?_ | refine endI_ret ?_ | refine endI_norm ?_)
    | (with_reducible refine wp_regK fun K hK => ?_
       simp
       repeat' (with_reducible first | refine hK _ ?_ | (refine psel ?_ ?_ <;> (intro hc; (try rw [Decidable.not_not] at hc); first | (exfalso; omega) | (try simp [hc]))))
       all_goals (clear hK; clear K))
    | (with_reducible refine wp_condE ?_
       refine ⟨_, rfl, ?_, ?_⟩ <;> (intro hc; (try simp at hc); (all_goals first | (exfalso; omega) | skip))))
  all_goals first | (simp_all [pf87]; done) | (simp_all [pf87]; omega)

@[simp] theorem t377 (x a b : Int) : Gw TT 377 [vi x, vi a, vi b] = some (vb (decide (a ≤ x) && decide (x ≤ b)), []) := by
  refine Gw_of (F := pf377) rfl rfl ?_
  show Wp _ pb377 _ _
  unfold pb377
  repeat' (first
    | with_reducible (first | refine wp_seq ?_ | refine wp_blk ?_ | refine wp_skip ?_ | refine wp_exit ?_ | refine wp_ret ?_ | refine seqQ_norm ?_ | refine seqQ_ret ?_ | refine seqQ_exit ?_ | refine blkQ_norm ?_ | refine blkQ_ret ?_ | refine blkQ_exit ?_ | refine loopQ_norm ?_ | refine loopQ_exit ?_ | refine loopQ_ret ?_ | refine endQ_ret ?_ | refine endQ_norm ?_ | refine endE_ret ?_ | refine endE_norm ?_ | refine endI_ret ?_ | refine endI_norm ?_)
    | (with_reducible refine wp_regK fun K hK => ?_
       simp
       repeat' (with_reducible first | refine hK _ ?_ | (refine psel ?_ ?_ <;> (intro hc; (try rw [Decidable.not_not] at hc); first | (exfalso; omega) | (try simp [hc]))))
       all_goals (clear hK; clear K))
    | (with_reducible refine wp_condE ?_
       refine ⟨_, rfl, ?_, ?_⟩ <;> (intro hc; (try simp at hc); (all_goals first | (exfalso; omega) | skip))))
  all_goals first | (simp_all [pf377]; done) | (simp_all [pf377]; omega)

def endOfF (l : List XRef) : Int := match l.getLast? with
  | none => 0
  | some r => IntKind.wrap .i64 (r.First + r.Many)

@[simp] theorem t16 (k0 : Bool) (x_Ver : Int) (x_L : List XRef) (h : x_L.length ≤ 1048576) : Gw TT 16 [.st [.ro false (di x_Ver), .ro k0 (.sl 5 (x_L.map XRef.e))]] = some (vi (endOfF x_L), []) := by
  refine Gw_of (F := pf16) rfl rfl ?_
  show Wp _ pb16 _ _
  unfold pb16
  rcases List.eq_nil_or_concat x_L with rfl | ⟨pre, r, rfl⟩
  · repeat' (first
      | with_reducible (first | refine wp_seq ?_ | refine wp_blk ?_ | refine wp_skip ?_ | refine wp_exit ?_ | refine wp_ret ?_ | refine seqQ_norm ?_ | refine seqQ_ret ?_ | refine seqQ_exit ?_ | refine blkQ_norm ?_ | refine blkQ_ret ?_ | refine blkQ_exit ?_ | refine loopQ_norm ?_ | refine loopQ_exit ?_ | refine loopQ_ret ?_ | refine endQ_ret ?_ | refine endQ_norm ?_ | refine endE_ret ?_ | refine endE_norm ?_ | refine endI_ret ?_ | refine endI_norm ?_)
      | (with_reducible refine wp_regK fun K hK => ?_
         simp
         repeat' (with_reducible first | refine hK _ ?_ | (refine psel ?_ ?_ <;> (intro hc; (try rw [Decidable.not_not] at hc); first | (exfalso; omega) | (try simp [hc]))))
         all_goals (clear hK; clear K))
      | (with_reducible refine wp_condE ?_
         refine ⟨_, rfl, ?_, ?_⟩ <;> (intro hc; (try simp at hc); (all_goals first | (exfalso; omega) | skip))))
    all_goals simp [pf16, endOfF]
  · simp only [List.concat_eq_append, List.length_append, List.length_cons, List.length_nil] at h
    have hw : IntKind.wrap .i64 (pre.length : Int) = (pre.length : Int) := wrap_i64 (by omega) (by omega)
    repeat' (first
      | with_reducible (first | refine wp_seq ?_ | refine wp_blk ?_ | refine wp_skip ?_ | refine wp_exit ?_ | refine wp_ret ?_ | refine seqQ_norm ?_ | refine seqQ_ret ?_ | refine seqQ_exit ?_ | refine blkQ_norm ?_ | refine blkQ_ret ?_ | refine blkQ_exit ?_ | refine loopQ_norm ?_ | refine loopQ_exit ?_ | refine loopQ_ret ?_ | refine endQ_ret ?_ | refine endQ_norm ?_ | refine endE_ret ?_ | refine endE_norm ?_ | refine endI_ret ?_ | refine endI_norm ?_)
      | (with_reducible refine wp_regK fun K hK => ?_
         simp[hw]
         repeat' (with_reducible first | refine hK _ ?_ | (refine psel ?_ ?_ <;> (intro hc; (try rw [Decidable.not_not] at hc); first | (exfalso; omega) | (try simp [hc, hw]))))
         all_goals (clear hK; clear K))
      | (with_reducible refine wp_condE ?_
         refine ⟨_, rfl, ?_, ?_⟩ <;> (intro hc; (try simp at hc); (all_goals first | (exfalso; omega) | skip))))
    all_goals simp [pf16, endOfF]

@[simp] theorem t296 (k0 : Bool) (x_Ver : Int) (x_L : List XRef) (h : x_L.length ≤ 1048576) : Gw TT 296 [.st [.ro false (di x_Ver), .ro k0 (.sl 5 (x_L.map XRef.e))]] = some (vi (endOfF x_L), []) := by
  refine Gw_of (F := pf296) rfl rfl ?_
  show Wp _ pb296 _ _
  unfold pb296
  rcases List.eq_nil_or_concat x_L with rfl | ⟨pre, r, rfl⟩
  · repeat' (first
      | with_reducible (first | refine wp_seq ?_ | refine wp_blk ?_ | refine wp_skip ?_ | refine wp_exit ?_ | refine wp_ret ?_ | refine seqQ_norm ?_ | refine seqQ_ret ?_ | refine seqQ_exit ?_ | refine blkQ_norm ?_ | refine blkQ_ret ?_ | refine blkQ_exit ?_ | refine loopQ_norm ?_ | refine loopQ_exit ?_ | refine loopQ_ret ?_ | refine endQ_ret ?_ | refine endQ_norm ?_ | refine endE_ret ?_ | refine endE_norm ?_ | refine endI_ret ?_ | refine endI_norm ?_)
      | (with_reducible refine wp_regK fun K hK => ?_
         simp
         repeat' (with_reducible first | refine hK _ ?_ | (refine psel ?_ ?_ <;> (intro hc; (try rw [Decidable.not_not] at hc); first | (exfalso; omega) | (try simp [hc]))))
         all_goals (clear hK; clear K))
      | (with_reducible refine wp_condE ?_
         refine ⟨_, rfl, ?_, ?_⟩ <;> (intro hc; (try simp at hc); (all_goals first | (exfalso; omega) | skip))))
    all_goals simp [pf296, endOfF]
  · simp only [List.concat_eq_append, List.length_append, List.length_cons, List.length_nil] at h
    have hw : IntKind.wrap .i64 (pre.length : Int) = (pre.length : Int) := wrap_i64 (by omega) (by omega)
    repeat' (first
      | with_reducible (first | refine wp_seq ?_ | refine wp_blk ?_ | refine wp_skip ?_ | refine wp_exit ?_ | refine wp_ret ?_ | refine seqQ_norm ?_ | refine seqQ_ret ?_ | refine seqQ_exit ?_ | refine blkQ_norm ?_ | refine blkQ_ret ?_ | refine blkQ_exit ?_ | refine loopQ_norm ?_ | refine loopQ_exit ?_ | refine loopQ_ret ?_ | refine endQ_ret ?_ | refine endQ_norm ?_ | refine endE_ret ?_ | refine endE_norm ?_ | refine endI_ret ?_ | refine endI_norm ?_)
      | (with_reducible refine wp_regK fun K hK => ?_
         simp[hw]
         repeat' (with_reducible first | refine hK _ ?_ | (refine psel ?_ ?_ <;> (intro hc; (try rw [Decidable.not_not] at hc); first | (exfalso; omega) | (try simp [hc, hw]))))
         all_goals (clear hK; clear K))
      | (with_reducible refine wp_condE ?_
         refine ⟨_, rfl, ?_, ?_⟩ <;> (intro hc; (try simp at hc); (all_goals first | (exfalso; omega) | skip))))
    all_goals simp [pf296, endOfF]

def hasBufF (b : Int) : List XRef → Bool
  | [] => false
  | d :: l => if d.Buf = b then true else hasBufF b l
def inRef (f m id : Int) : Bool := decide (0 ≤ f) && decide (f ≤ id) && decide (IntKind.wrap .i64 (id - f) < m)
def refAtF (id : Int) : Int → List XRef → Int
  | _, [] => -1
  | i, d :: l => if inRef d.First d.Many id then i else refAtF id (i + 1) l

@[simp] theorem t22 (k0 : Bool) (x_Ver : Int) (x_L : List XRef) (b : Int) (h : x_L.length ≤ 1048576) : Gw TT 22 [.st [.ro false (di x_Ver), .ro k0 (.sl 5 (x_L.map XRef.e))], vi b] = some (vb (hasBufF b x_L), []) := by
  refine Gw_of (F := pf22) rfl rfl ?_
  show Wp _ pb22 _ _
  unfold pb22
  repeat' (first
    | with_reducible (first | refine wp_seq ?_ | refine wp_blk ?_ | refine wp_skip ?_ | refine wp_exit ?_ | refine wp_ret ?_ | refine seqQ_norm ?_ | refine seqQ_ret ?_ | refine seqQ_exit ?_ | refine blkQ_norm ?_ | refine blkQ_ret ?_ | refine blkQ_exit ?_ | refine loopQ_norm ?_ | refine loopQ_exit ?_ | refine loopQ_ret ?_ | refine endQ_ret ?_ | refine endQ_norm ?_ | refine endE_ret ?_ | refine endE_norm ?_ | refine endI_ret ?_ | refine endI_norm ?_)
    | (with_reducible refine wp_regK fun K hK => ?_
       simp
       repeat' (with_reducible first | refine hK _ ?_ | (refine psel ?_ ?_ <;> (intro hc; (try rw [Decidable.not_not] at hc); first | (exfalso; omega) | (try simp [hc]))))
       all_goals (clear hK; clear K))
    | (with_reducible refine wp_condE ?_
       refine ⟨_, rfl, ?_, ?_⟩ <;> (intro hc; (try simp at hc); (all_goals first | (exfalso; omega) | skip))))
  refine wp_loopI (σ := List (XRef) × List (XRef)) (fun s => [(1, AV.v false (di b), none), (2, AV.bx 2 0, some (Rt.bx [.ro false (di x_Ver), .ro k0 (.sl 5 (x_L.map XRef.e))])), (8, AV.v k0 (D.sl 5 (x_L.map XRef.e)), none), (9, AV.v false (di (x_L.length : Nat)), none), (10, AV.v false (di ((s.1.length : Nat) : Int)), none)]) (fun s => x_L = s.1 ++ s.2 ∧ hasBufF b s.2 = hasBufF b x_L) (fun s => s.2.length) ([], x_L) (by simp) ⟨rfl, rfl⟩ ?_
  rintro ⟨pre, rest⟩ ⟨h1, h2⟩
  simp only at h1 h2
  subst h1
  simp only [List.length_append, List.length_cons] at h
  rcases rest with _ | ⟨d, rest⟩
  · unfold pl22_0
    simp only [hasBufF] at h2
    repeat' (first
      | with_reducible (first | refine wp_seq ?_ | refine wp_blk ?_ | refine wp_skip ?_ | refine wp_exit ?_ | refine wp_ret ?_ | refine seqQ_norm ?_ | refine seqQ_ret ?_ | refine seqQ_exit ?_ | refine blkQ_norm ?_ | refine blkQ_ret ?_ | refine blkQ_exit ?_ | refine loopQ_norm ?_ | refine loopQ_exit ?_ | refine loopQ_ret ?_ | refine endQ_ret ?_ | refine endQ_norm ?_ | refine endE_ret ?_ | refine endE_norm ?_ | refine endI_ret ?_ | refine endI_norm ?_)
      | (with_reducible refine wp_regK fun K hK => ?_
         simp
         repeat' (with_reducible first | refine hK _ ?_ | (refine psel ?_ ?_ <;> (intro hc; (try rw [Decidable.not_not] at hc); first | (exfalso; omega) | (try simp [hc]))))
         all_goals (clear hK; clear K))
      | (with_reducible refine wp_condE ?_
         refine ⟨_, rfl, ?_, ?_⟩ <;> (intro hc; (try simp at hc); (all_goals first | (exfalso; omega) | skip))))
    all_goals first | (simp_all [pf22]; done) | (simp_all [pf22]; omega)
  · unfold pl22_0
    simp only [List.length_cons] at h
    simp only [hasBufF] at h2
    have hw : IntKind.wrap .i64 ((pre.length : Int) + 1) = (pre.length : Int) + 1 := wrap_i64 (by omega) (by omega)
    repeat' (first
      | with_reducible (first | refine wp_seq ?_ | refine wp_blk ?_ | refine wp_skip ?_ | refine wp_exit ?_ | refine wp_ret ?_ | refine seqQ_norm ?_ | refine seqQ_ret ?_ | refine seqQ_exit ?_ | refine blkQ_norm ?_ | refine blkQ_ret ?_ | refine blkQ_exit ?_ | refine loopQ_norm ?_ | refine loopQ_exit ?_ | refine loopQ_ret ?_ | refine endQ_ret ?_ | refine endQ_norm ?_ | refine endE_ret ?_ | refine endE_norm ?_ | refine endI_ret ?_ | refine endI_norm ?_)
      | (with_reducible refine wp_regK fun K hK => ?_
         simp[hw]
         repeat' (with_reducible first | refine hK _ ?_ | (refine psel ?_ ?_ <;> (intro hc; (try rw [Decidable.not_not] at hc); first | (exfalso; omega) | (try simp [hc, hw]))))
         all_goals (clear hK; clear K))
      | (with_reducible refine wp_condE ?_
         refine ⟨_, rfl, ?_, ?_⟩ <;> (intro hc; (try simp at hc); (all_goals first | (exfalso; omega) | skip))))
    all_goals first | (refine ⟨(pre ++ [d], rest), ?_, ⟨?_, ?_⟩, ?_⟩; (focus (first | (simp; done) | (simp_all; done))); (focus (simp; done)); (focus (refine Eq.trans ?_ h2; clear h2; first | (simp [*]; done) | (simp_all; done) | (split <;> simp_all <;> omega) | (split <;> first | (exfalso; omega) | (simp_all; done)))); (focus (simp; done))) | (simp_all [pf22]; done) | (simp_all [pf22]; omega) | (split at h2 <;> first | (exfalso; omega) | (simp_all [pf22]; done))

def refOkF (b g k m : Int) : Bool := decide (0 ≤ b) && decide (0 ≤ g) && (decide (1 ≤ k) && decide (k ≤ 2)) && (decide (1 ≤ m) && decide (m ≤ 1000000000))

@[simp] theorem t82 (x_Buf x_Gen x_Kind x_First x_Many : Int) : Gw TT 82 [.st [.ro false (di x_Buf), .ro false (di x_Gen), .ro false (di x_Kind), .ro false (di x_First), .ro false (di x_Many)]] = some (vb (refOkF x_Buf x_Gen x_Kind x_Many), []) := by
  refine Gw_of (F := pf82) rfl rfl ?_
  show Wp _ pb82 _ _
  unfold pb82
  repeat' (first
    | with_reducible (first | refine wp_seq ?_ | refine wp_blk ?_ | refine wp_skip ?_ | refine wp_exit ?_ | refine wp_ret ?_ | refine seqQ_norm ?_ | refine seqQ_ret ?_ | refine seqQ_exit ?_ | refine blkQ_norm ?_ | refine blkQ_ret ?_ | refine blkQ_exit ?_ | refine loopQ_norm ?_ | refine loopQ_exit ?_ | refine loopQ_ret ?_ | refine endQ_ret ?_ | refine endQ_norm ?_ | refine endE_ret ?_ | refine endE_norm ?_ | refine endI_ret ?_ | refine endI_norm ?_)
    | (with_reducible refine wp_regK fun K hK => ?_
       simp
       repeat' (with_reducible first | refine hK _ ?_ | (refine psel ?_ ?_ <;> (intro hc; (try rw [Decidable.not_not] at hc); first | (exfalso; omega) | (try simp [hc]))))
       all_goals (clear hK; clear K))
    | (with_reducible refine wp_condE ?_
       refine ⟨_, rfl, ?_, ?_⟩ <;> (intro hc; (try simp at hc); (all_goals first | (exfalso; omega) | skip))))
  all_goals first | (simp_all [pf82, refOkF]; done) | (simp [pf82, refOkF]; omega) | (simp_all [pf82, refOkF]; omega)

@[simp] theorem t370 (x_Buf x_Gen x_Kind x_First x_Many : Int) : Gw TT 370 [.st [.ro false (di x_Buf), .ro false (di x_Gen), .ro false (di x_Kind), .ro false (di x_First), .ro false (di x_Many)]] = some (vb (refOkF x_Buf x_Gen x_Kind x_Many), []) := by
  refine Gw_of (F := pf370) rfl rfl ?_
  show Wp _ pb370 _ _
  unfold pb370
  repeat' (first
    | with_reducible (first | refine wp_seq ?_ | refine wp_blk ?_ | refine wp_skip ?_ | refine wp_exit ?_ | refine wp_ret ?_ | refine seqQ_norm ?_ | refine seqQ_ret ?_ | refine seqQ_exit ?_ | refine blkQ_norm ?_ | refine blkQ_ret ?_ | refine blkQ_exit ?_ | refine loopQ_norm ?_ | refine loopQ_exit ?_ | refine loopQ_ret ?_ | refine endQ_ret ?_ | refine endQ_norm ?_ | refine endE_ret ?_ | refine endE_norm ?_ | refine endI_ret ?_ | refine endI_norm ?_)
    | (with_reducible refine wp_regK fun K hK => ?_
       simp
       repeat' (with_reducible first | refine hK _ ?_ | (refine psel ?_ ?_ <;> (intro hc; (try rw [Decidable.not_not] at hc); first | (exfalso; omega) | (try simp [hc]))))
       all_goals (clear hK; clear K))
    | (with_reducible refine wp_condE ?_
       refine ⟨_, rfl, ?_, ?_⟩ <;> (intro hc; (try simp at hc); (all_goals first | (exfalso; omega) | skip))))
  all_goals first | (simp_all [pf370, refOkF]; done) | (simp [pf370, refOkF]; omega) | (simp_all [pf370, refOkF]; omega)

@[simp] theorem take_mid {α : Type} {n : Nat} (l r : List α) (h : n = l.length) : (l ++ r).take n = l := by subst h; simp

def dirB : List XRef → Int → List XRef → Bool
  | _, _, [] => true
  | p, e, r :: l => if refOkF r.Buf r.Gen r.Kind r.Many = true ∧ r.First = e ∧ hasBufF r.Buf p = false then dirB (p ++ [r]) (IntKind.wrap .i64 (e + r.Many)) l else false
def dirOkB (v : Int) (l : List XRef) : Bool := decide (0 ≤ v) && decide ((l.length : Int) ≤ 8) && dirB [] 0 l

theorem t15g (k0 : Bool) (x_Ver : Int) (x_L : List XRef) (h : x_L.length ≤ 1048577) : Gw TT 15 [.st [.ro false (di x_Ver), .ro k0 (.sl 5 (x_L.map XRef.e))]] = some (vb (dirOkB x_Ver x_L), []) := by
  refine Gw_of (F := pf15) rfl rfl ?_
  show Wp _ pb15 _ _
  unfold pb15
  repeat' (first
    | with_reducible (first | refine wp_seq ?_ | refine wp_blk ?_ | refine wp_skip ?_ | refine wp_exit ?_ | refine wp_ret ?_ | refine seqQ_norm ?_ | refine seqQ_ret ?_ | refine seqQ_exit ?_ | refine blkQ_norm ?_ | refine blkQ_ret ?_ | refine blkQ_exit ?_ | refine loopQ_norm ?_ | refine loopQ_exit ?_ | refine loopQ_ret ?_ | refine endQ_ret ?_ | refine endQ_norm ?_ | refine endE_ret ?_ | refine endE_norm ?_ | refine endI_ret ?_ | refine endI_norm ?_)
    | (with_reducible refine wp_regK fun K hK => ?_
       simp
       repeat' (with_reducible first | refine hK _ ?_ | (refine psel ?_ ?_ <;> (intro hc; (try rw [Decidable.not_not] at hc); first | (exfalso; omega) | (try simp [hc]))))
       all_goals (clear hK; clear K))
    | (with_reducible refine wp_condE ?_
       refine ⟨_, rfl, ?_, ?_⟩ <;> (intro hc; (try simp at hc); (all_goals first | (exfalso; omega) | skip))))
  all_goals first | (simp_all [pf15, dirOkB]; done) | (simp [pf15, dirOkB]; omega) | skip
  refine wp_loopI (σ := List XRef × List XRef × Int) (fun s => [(1, AV.bx 1 0, some (Rt.bx [.ro false (di x_Ver), .ro k0 (.sl 5 (x_L.map XRef.e))])), (3, AV.v false (di s.2.2), none), (16, AV.v k0 (D.sl 5 (x_L.map XRef.e)), none), (17, AV.v false (di (x_L.length : Nat)), none), (18, AV.v false (di ((s.1.length : Nat) : Int)), none)]) (fun s => x_L = s.1 ++ s.2.1 ∧ dirB s.1 s.2.2 s.2.1 = dirB [] 0 x_L) (fun s => s.2.1.length) ([], x_L, 0) (by simp) ⟨rfl, rfl⟩ ?_
  rintro ⟨pre, rest, a⟩ ⟨h1, h2⟩
  simp only at h1 h2
  subst h1
  simp only [List.length_append, List.length_cons] at h
  rcases rest with _ | ⟨d, rest⟩
  · unfold pl15_0
    simp only [dirB] at h2
    repeat' (first
      | with_reducible (first | refine wp_seq ?_ | refine wp_blk ?_ | refine wp_skip ?_ | refine wp_exit ?_ | refine wp_ret ?_ | refine seqQ_norm ?_ | refine seqQ_ret ?_ | refine seqQ_exit ?_ | refine blkQ_norm ?_ | refine blkQ_ret ?_ | refine blkQ_exit ?_ | refine loopQ_norm ?_ | refine loopQ_exit ?_ | refine loopQ_ret ?_ | refine endQ_ret ?_ | refine endQ_norm ?_ | refine endE_ret ?_ | refine endE_norm ?_ | refine endI_ret ?_ | refine endI_norm ?_)
      | (with_reducible refine wp_regK fun K hK => ?_
         simp
         repeat' (with_reducible first | refine hK _ ?_ | (refine psel ?_ ?_ <;> (intro hc; (try rw [Decidable.not_not] at hc); first | (exfalso; omega) | (try simp [hc]))))
         all_goals (clear hK; clear K))
      | (with_reducible refine wp_condE ?_
         refine ⟨_, rfl, ?_, ?_⟩ <;> (intro hc; (try simp at hc); (all_goals first | (exfalso; omega) | skip))))
    all_goals first | (simp_all [pf15, dirOkB]; done) | (simp_all [pf15, dirOkB]; omega)
  · unfold pl15_0
    simp only [List.length_cons] at h
    simp only [dirB] at h2
    have hw : IntKind.wrap .i64 ((pre.length : Int) + 1) = (pre.length : Int) + 1 := wrap_i64 (by omega) (by omega)
    have hb : ((pre.length : Int) ≤ (pre.length : Int) + ((rest.length : Int) + 1)) := by omega
    have hl : pre.length ≤ 1048576 := by omega
    repeat' (first
      | with_reducible (first | refine wp_seq ?_ | refine wp_blk ?_ | refine wp_skip ?_ | refine wp_exit ?_ | refine wp_ret ?_ | refine seqQ_norm ?_ | refine seqQ_ret ?_ | refine seqQ_exit ?_ | refine blkQ_norm ?_ | refine blkQ_ret ?_ | refine blkQ_exit ?_ | refine loopQ_norm ?_ | refine loopQ_exit ?_ | refine loopQ_ret ?_ | refine endQ_ret ?_ | refine endQ_norm ?_ | refine endE_ret ?_ | refine endE_norm ?_ | refine endI_ret ?_ | refine endI_norm ?_)
      | (with_reducible refine wp_regK fun K hK => ?_
         simp[hw, hb, hl]
         repeat' (with_reducible first | refine hK _ ?_ | (refine psel ?_ ?_ <;> (intro hc; (try rw [Decidable.not_not] at hc); first | (exfalso; omega) | (try simp [hc, hw, hb, hl]))))
         all_goals (clear hK; clear K))
      | (with_reducible refine wp_condE ?_
         refine ⟨_, rfl, ?_, ?_⟩ <;> (intro hc; (try simp at hc); (all_goals first | (exfalso; omega) | skip))))
    all_goals first | (refine ⟨(pre ++ [d], rest, IntKind.wrap .i64 (a + d.Many)), ?_, ⟨?_, ?_⟩, ?_⟩; (focus (first | (simp; done) | (simp_all; done))); (focus (simp; done)); (focus (refine Eq.trans ?_ h2; clear h2; first | (simp [*]; done) | (simp_all; done))); (focus (simp; done))) | (simp_all [pf15, dirOkB]; done)

@[simp] theorem t15 (k0 : Bool) (x_Ver : Int) (x_L : List XRef) (h : x_L.length ≤ 1048576) : Gw TT 15 [.st [.ro false (di x_Ver), .ro k0 (.sl 5 (x_L.map XRef.e))]] = some (vb (dirOkB x_Ver x_L), []) := t15g k0 x_Ver x_L (by omega)

theorem t271g (k0 : Bool) (x_Ver : Int) (x_L : List XRef) (h : x_L.length ≤ 1048577) : Gw TT 271 [.st [.ro false (di x_Ver), .ro k0 (.sl 5 (x_L.map XRef.e))]] = some (vb (dirOkB x_Ver x_L), []) := by
  refine Gw_of (F := pf271) rfl rfl ?_
  show Wp _ pb271 _ _
  unfold pb271
  repeat' (first
    | with_reducible (first | refine wp_seq ?_ | refine wp_blk ?_ | refine wp_skip ?_ | refine wp_exit ?_ | refine wp_ret ?_ | refine seqQ_norm ?_ | refine seqQ_ret ?_ | refine seqQ_exit ?_ | refine blkQ_norm ?_ | refine blkQ_ret ?_ | refine blkQ_exit ?_ | refine loopQ_norm ?_ | refine loopQ_exit ?_ | refine loopQ_ret ?_ | refine endQ_ret ?_ | refine endQ_norm ?_ | refine endE_ret ?_ | refine endE_norm ?_ | refine endI_ret ?_ | refine endI_norm ?_)
    | (with_reducible refine wp_regK fun K hK => ?_
       simp
       repeat' (with_reducible first | refine hK _ ?_ | (refine psel ?_ ?_ <;> (intro hc; (try rw [Decidable.not_not] at hc); first | (exfalso; omega) | (try simp [hc]))))
       all_goals (clear hK; clear K))
    | (with_reducible refine wp_condE ?_
       refine ⟨_, rfl, ?_, ?_⟩ <;> (intro hc; (try simp at hc); (all_goals first | (exfalso; omega) | skip))))
  all_goals first | (simp_all [pf271, dirOkB]; done) | (simp [pf271, dirOkB]; omega) | skip
  refine wp_loopI (σ := List XRef × List XRef × Int) (fun s => [(1, AV.bx 1 0, some (Rt.bx [.ro false (di x_Ver), .ro k0 (.sl 5 (x_L.map XRef.e))])), (3, AV.v false (di s.2.2), none), (4, AV.v false (di ((s.1.length : Nat) : Int)), none)]) (fun s => x_L = s.1 ++ s.2.1 ∧ dirB s.1 s.2.2 s.2.1 = dirB [] 0 x_L) (fun s => s.2.1.length) ([], x_L, 0) (by simp) ⟨rfl, rfl⟩ ?_
  rintro ⟨pre, rest, a⟩ ⟨h1, h2⟩
  simp only at h1 h2
  subst h1
  simp only [List.length_append, List.length_cons] at h
  rcases rest with _ | ⟨d, rest⟩
  · unfold pl271_1
    simp only [dirB] at h2
    repeat' (first
      | with_reducible (first | refine wp_seq ?_ | refine wp_blk ?_ | refine wp_skip ?_ | refine wp_exit ?_ | refine wp_ret ?_ | refine seqQ_norm ?_ | refine seqQ_ret ?_ | refine seqQ_exit ?_ | refine blkQ_norm ?_ | refine blkQ_ret ?_ | refine blkQ_exit ?_ | refine loopQ_norm ?_ | refine loopQ_exit ?_ | refine loopQ_ret ?_ | refine endQ_ret ?_ | refine endQ_norm ?_ | refine endE_ret ?_ | refine endE_norm ?_ | refine endI_ret ?_ | refine endI_norm ?_)
      | (with_reducible refine wp_regK fun K hK => ?_
         simp
         repeat' (with_reducible first | refine hK _ ?_ | (refine psel ?_ ?_ <;> (intro hc; (try rw [Decidable.not_not] at hc); first | (exfalso; omega) | (try simp [hc]))))
         all_goals (clear hK; clear K))
      | (with_reducible refine wp_condE ?_
         refine ⟨_, rfl, ?_, ?_⟩ <;> (intro hc; (try simp at hc); (all_goals first | (exfalso; omega) | skip))))
    all_goals first | (simp_all [pf271, dirOkB]; done) | (simp_all [pf271, dirOkB]; omega)
  · unfold pl271_1
    simp only [List.length_cons] at h
    simp only [dirB] at h2
    have hw : IntKind.wrap .i64 ((pre.length : Int) + 1) = (pre.length : Int) + 1 := wrap_i64 (by omega) (by omega)
    repeat' (first
      | with_reducible (first | refine wp_seq ?_ | refine wp_blk ?_ | refine wp_skip ?_ | refine wp_exit ?_ | refine wp_ret ?_ | refine seqQ_norm ?_ | refine seqQ_ret ?_ | refine seqQ_exit ?_ | refine blkQ_norm ?_ | refine blkQ_ret ?_ | refine blkQ_exit ?_ | refine loopQ_norm ?_ | refine loopQ_exit ?_ | refine loopQ_ret ?_ | refine endQ_ret ?_ | refine endQ_norm ?_ | refine endE_ret ?_ | refine endE_norm ?_ | refine endI_ret ?_ | refine endI_norm ?_)
      | (with_reducible refine wp_regK fun K hK => ?_
         simp[hw]
         repeat' (with_reducible first | refine hK _ ?_ | (refine psel ?_ ?_ <;> (intro hc; (try rw [Decidable.not_not] at hc); first | (exfalso; omega) | (try simp [hc, hw]))))
         all_goals (clear hK; clear K))
      | (with_reducible refine wp_condE ?_
         refine ⟨_, rfl, ?_, ?_⟩ <;> (intro hc; (try simp at hc); (all_goals first | (exfalso; omega) | skip))))
    all_goals first | (simp_all [pf271, dirOkB]; done) | skip
    have hr : refOkF d.Buf d.Gen d.Kind d.Many = true := by simpa using ‹¬refOkF d.Buf d.Gen d.Kind d.Many = false›
    have hd : d.First = a := by assumption
    refine wp_loopI (σ := List XRef × List XRef) (fun s => [(1, AV.bx 1 0, some (Rt.bx [.ro false (di x_Ver), .ro k0 (.sl 5 ((pre ++ d :: rest).map XRef.e))])), (3, AV.v false (di (IntKind.wrap .i64 (a + d.Many))), none), (4, AV.v false (di ((pre.length : Nat) : Int)), none), (5, AV.v false (di ((s.1.length : Nat) : Int)), none)]) (fun s => pre = s.1 ++ s.2 ∧ hasBufF d.Buf s.2 = hasBufF d.Buf pre) (fun s => s.2.length) ([], pre) (by simp) ⟨rfl, rfl⟩ ?_
    rintro ⟨p1, p2⟩ ⟨h3, h4⟩
    simp only at h3 h4
    rcases p2 with _ | ⟨e, p2⟩
    · simp only [List.append_nil] at h3
      subst h3
      unfold pl271_0
      simp only [hasBufF] at h4
      repeat' (first
        | with_reducible (first | refine wp_seq ?_ | refine wp_blk ?_ | refine wp_skip ?_ | refine wp_exit ?_ | refine wp_ret ?_ | refine seqQ_norm ?_ | refine seqQ_ret ?_ | refine seqQ_exit ?_ | refine blkQ_norm ?_ | refine blkQ_ret ?_ | refine blkQ_exit ?_ | refine loopQ_norm ?_ | refine loopQ_exit ?_ | refine loopQ_ret ?_ | refine endQ_ret ?_ | refine endQ_norm ?_ | refine endE_ret ?_ | refine endE_norm ?_ | refine endI_ret ?_ | refine endI_norm ?_)
        | (with_reducible refine wp_regK fun K hK => ?_
           simp[hw]
           repeat' (with_reducible first | refine hK _ ?_ | (refine psel ?_ ?_ <;> (intro hc; (try rw [Decidable.not_not] at hc); first | (exfalso; omega) | (try simp [hc, hw]))))
           all_goals (clear hK; clear K))
        | (with_reducible refine wp_condE ?_
           refine ⟨_, rfl, ?_, ?_⟩ <;> (intro hc; (try simp at hc); (all_goals first | (exfalso; omega) | skip))))
      all_goals first | (refine ⟨(pre ++ [d], rest, IntKind.wrap .i64 (a + d.Many)), ?_, ⟨?_, ?_⟩, ?_⟩; (focus (first | (simp; done) | (simp_all; done))); (focus (simp; done)); (focus (refine Eq.trans ?_ h2; clear h2; rw [if_pos ⟨hr, hd, h4.symm⟩])); (focus (simp; done)))
    · unfold pl271_0
      simp only [hasBufF] at h4
      subst h3
      simp only [List.length_append, List.length_cons] at h hw
      have hv : IntKind.wrap .i64 ((p1.length : Int) + 1) = (p1.length : Int) + 1 := wrap_i64 (by omega) (by omega)
      have hn : ((p1.length : Int) + ((p2.length : Int) + 1)).toNat = p1.length + (p2.length + 1) := by omega
      have hx4 : (List.map XRef.e p1 ++ [di e.Buf, di e.Gen, di e.Kind, di e.First, di e.Many] :: (List.map XRef.e p2 ++ [di d.Buf, di d.Gen, di d.Kind, di d.First, di d.Many] :: List.map XRef.e rest))[p1.length + (p2.length + 1)]? = some [di d.Buf, di d.Gen, di d.Kind, di d.First, di d.Many] := by
        rw [List.getElem?_append_right (by simp), List.length_map, Nat.add_sub_cancel_left, List.getElem?_cons_succ]
        exact get_mid _ _ _ (by simp)
      repeat' (first
        | with_reducible (first | refine wp_seq ?_ | refine wp_blk ?_ | refine wp_skip ?_ | refine wp_exit ?_ | refine wp_ret ?_ | refine seqQ_norm ?_ | refine seqQ_ret ?_ | refine seqQ_exit ?_ | refine blkQ_norm ?_ | refine blkQ_ret ?_ | refine blkQ_exit ?_ | refine loopQ_norm ?_ | refine loopQ_exit ?_ | refine loopQ_ret ?_ | refine endQ_ret ?_ | refine endQ_norm ?_ | refine endE_ret ?_ | refine endE_norm ?_ | refine endI_ret ?_ | refine endI_norm ?_)
        | (with_reducible refine wp_regK fun K hK => ?_
           simp[hv, hn, hx4]
           repeat' (with_reducible first | refine hK _ ?_ | (refine psel ?_ ?_ <;> (intro hc; (try rw [Decidable.not_not] at hc); first | (exfalso; omega) | (try simp [hc, hv, hn, hx4]))))
           all_goals (clear hK; clear K))
        | (with_reducible refine wp_condE ?_
           refine ⟨_, rfl, ?_, ?_⟩ <;> (intro hc; (try simp at hc); (all_goals first | (exfalso; omega) | skip))))
      · have h5 : hasBufF d.Buf (p1 ++ e :: p2) = true := by simp_all
        have h6 : dirB [] 0 (p1 ++ e :: p2 ++ d :: rest) = false := by rw [← h2, if_neg (by simp [h5])]
        simp [pf271, dirOkB]
        simpa using fun _ _ => h6
      · refine ⟨(p1 ++ [e], p2), ?_, ⟨?_, ?_⟩, ?_⟩
        · first | (simp; done) | (simp_all; done)
        · simp
        · refine Eq.trans ?_ h4
          simp [*]
        · simp

@[simp] theorem t271 (k0 : Bool) (x_Ver : Int) (x_L : List XRef) (h : x_L.length ≤ 1048576) : Gw TT 271 [.st [.ro false (di x_Ver), .ro k0 (.sl 5 (x_L.map XRef.e))]] = some (vb (dirOkB x_Ver x_L), []) := t271g k0 x_Ver x_L (by omega)

@[simp] theorem bytesStr_map (l : List Int) : bytesStr (l.map eb) = some (l.map fun n => UInt8.ofNat n.toNat) := by
  induction l with
  | nil => rfl
  | cons n l ih =>
    have : bytesStr (List.map eb (n :: l)) = match bytesStr (l.map eb) with
      | some bs => some (UInt8.ofNat n.toNat :: bs)
      | none => none := rfl
    rw [this, ih]; rfl

@[simp] theorem ba_one (x : UInt8) : (ByteArray.mk #[x]).size = 1 := rfl

@[simp] theorem flatD_nil : flatD [] = true := rfl

@[simp] theorem flatD_map {α : Type} (f : α → List D) (l : List α) (h : ∀ x, (f x).all D.scal = true) : flatD (l.map f) = true := by
  simp only [flatD, List.all_map, List.all_eq_true, Function.comp]
  exact fun x _ => List.all_eq_true.1 (h x)

@[simp] theorem flatD_one (e : List D) (l : List (List D)) : flatD (e :: l) = (e.all D.scal && flatD l) := rfl

@[simp] theorem flatD_app (l m : List (List D)) : flatD (l ++ m) = (flatD l && flatD m) := by simp [flatD]

def ctRef : XRef → Int
  | ⟨y_Buf, y_Gen, y_Kind, y_First, y_Many⟩ => 1 + 1 + 1 + 1 + 1

def ctRefs : List XRef → Int
  | [] => 0
  | x :: l => ctRef x + ctRefs l

def mkRef : Int → XRef → XRef
  | k, ⟨y_Buf, y_Gen, y_Kind, y_First, y_Many⟩ => ⟨k, k + 1, k + 1 + 1, k + 1 + 1 + 1, k + 1 + 1 + 1 + 1⟩

def mkRefs : Int → List XRef → List XRef
  | _, [] => []
  | k, x :: l => mkRef k x :: mkRefs (k + ctRef x) l

theorem ctRef_pos : ∀ x : XRef, 1 ≤ ctRef x
  | ⟨y_Buf, y_Gen, y_Kind, y_First, y_Many⟩ => by simp only [ctRef]; omega

theorem ctRefs_len : ∀ l : List XRef, (l.length : Int) ≤ ctRefs l
  | [] => by simp [ctRefs]
  | x :: l => by have h1 := ctRef_pos x; have h2 := ctRefs_len l; simp only [ctRefs, List.length_cons]; omega

theorem ctRefs_nn (l : List XRef) : 0 ≤ ctRefs l := by have := ctRefs_len l; omega

@[simp] theorem mkRefs_len : ∀ (k : Int) (l : List XRef), (mkRefs k l).length = l.length
  | _, [] => by simp [mkRefs]
  | k, x :: l => by simp [mkRefs, mkRefs_len]

theorem ctRefs_le : ∀ l : List XRef, ctRefs l = 5 * (l.length : Int)
  | [] => by simp [ctRefs]
  | x :: l => by have h2 := ctRefs_le l; simp only [ctRefs, List.length_cons, ctRef]; omega

@[simp] theorem t192 (l : List XRef) (k : Int) (h0 : 0 ≤ k) (hc : k + ctRefs l ≤ 4611686018427387904) : Gw TT 192 [.one (.own (.sl 5 (l.map XRef.e))), vi k] = some (vi (k + ctRefs l), [(0, 0, .own (.sl 5 ((mkRefs k l).map XRef.e)))]) := by
  refine Gw_of (F := pf192) rfl rfl ?_
  show Wp _ pb192 _ _
  unfold pb192
  generalize hM : mkRefs k l = M
  have hlen := ctRefs_len l
  repeat' (first
    | with_reducible (first | refine wp_seq ?_ | refine wp_blk ?_ | refine wp_skip ?_ | refine wp_exit ?_ | refine wp_ret ?_ | refine seqQ_norm ?_ | refine seqQ_ret ?_ | refine seqQ_exit ?_ | refine blkQ_norm ?_ | refine blkQ_ret ?_ | refine blkQ_exit ?_ | refine loopQ_norm ?_ | refine loopQ_exit ?_ | refine loopQ_ret ?_ | refine endQ_ret ?_ | refine endQ_norm ?_ | refine endE_ret ?_ | refine endE_norm ?_ | refine endI_ret ?_ | refine endI_norm ?_)
    | (with_reducible refine wp_regK fun K hK => ?_
       simp
       repeat' (with_reducible first | refine hK _ ?_ | (refine psel ?_ ?_ <;> (intro hc; (try rw [Decidable.not_not] at hc); first | (exfalso; omega) | (try simp [hc]))))
       all_goals (clear hK; clear K))
    | (with_reducible refine wp_condE ?_
       refine ⟨_, rfl, ?_, ?_⟩ <;> (intro hc; (try simp at hc); (all_goals first | (exfalso; omega) | skip))))
  · refine wp_loopI (σ := List XRef × List XRef × Int) (fun s => [(0, AV.pl 0 0 [], some (Rt.vir [C.own (D.sl 5 (s.1.map XRef.e ++ s.2.1.map XRef.e))])), (1, AV.v false (di s.2.2), none), (5, AV.v false (di ((s.1.length : Nat) : Int)), none)]) (fun s => M = s.1 ++ mkRefs s.2.2 s.2.1 ∧ s.2.2 + ctRefs s.2.1 = k + ctRefs l ∧ s.1.length + s.2.1.length = l.length ∧ 0 ≤ s.2.2) (fun s => s.2.1.length) ([], l, k) (by simp) ⟨hM.symm, rfl, by simp, h0⟩ ?_
    rintro ⟨pre, rest, k1⟩ ⟨h1, h2, h3, h4⟩
    simp only at h1 h2 h3 h4
    rcases rest with _ | ⟨⟨y_Buf, y_Gen, y_Kind, y_First, y_Many⟩, rest⟩
    · unfold pl192_0
      simp only [mkRefs, ctRefs, List.append_nil, Int.add_zero] at h1 h2
      subst h1
      repeat' (first
        | with_reducible (first | refine wp_seq ?_ | refine wp_blk ?_ | refine wp_skip ?_ | refine wp_exit ?_ | refine wp_ret ?_ | refine seqQ_norm ?_ | refine seqQ_ret ?_ | refine seqQ_exit ?_ | refine blkQ_norm ?_ | refine blkQ_ret ?_ | refine blkQ_exit ?_ | refine loopQ_norm ?_ | refine loopQ_exit ?_ | refine loopQ_ret ?_ | refine endQ_ret ?_ | refine endQ_norm ?_ | refine endE_ret ?_ | refine endE_norm ?_ | refine endI_ret ?_ | refine endI_norm ?_)
        | (with_reducible refine wp_regK fun K hK => ?_
           simp
           repeat' (with_reducible first | refine hK _ ?_ | (refine psel ?_ ?_ <;> (intro hc; (try rw [Decidable.not_not] at hc); first | (exfalso; omega) | (try simp [hc]))))
           all_goals (clear hK; clear K))
        | (with_reducible refine wp_condE ?_
           refine ⟨_, rfl, ?_, ?_⟩ <;> (intro hc; (try simp at hc); (all_goals first | (exfalso; omega) | skip))))
      all_goals simp [pf192, h2]
    · unfold pl192_0
      simp only [mkRefs, ctRefs, mkRef, ctRef, List.length_cons] at h1 h2 h3
      have hnr := ctRefs_nn rest
      have hw0 : IntKind.wrap .i64 (k1 + 1) = k1 + 1 := wrap_i64 (by omega) (by omega)
      have hw1 : IntKind.wrap .i64 (k1 + 1 + 1) = k1 + 1 + 1 := wrap_i64 (by omega) (by omega)
      have hw2 : IntKind.wrap .i64 (k1 + 1 + 1 + 1) = k1 + 1 + 1 + 1 := wrap_i64 (by omega) (by omega)
      have hw3 : IntKind.wrap .i64 (k1 + 1 + 1 + 1 + 1) = k1 + 1 + 1 + 1 + 1 := wrap_i64 (by omega) (by omega)
      have hw4 : IntKind.wrap .i64 (k1 + 1 + 1 + 1 + 1 + 1) = k1 + 1 + 1 + 1 + 1 + 1 := wrap_i64 (by omega) (by omega)
      have hE : k1 + (1 + 1 + 1 + 1 + 1) = k1 + 1 + 1 + 1 + 1 + 1 := by omega
      rw [hE] at h1
      have hw : IntKind.wrap .i64 ((pre.length : Int) + 1) = (pre.length : Int) + 1 := wrap_i64 (by omega) (by omega)
      subst h1
      repeat' (first
        | with_reducible (first | refine wp_seq ?_ | refine wp_blk ?_ | refine wp_skip ?_ | refine wp_exit ?_ | refine wp_ret ?_ | refine seqQ_norm ?_ | refine seqQ_ret ?_ | refine seqQ_exit ?_ | refine blkQ_norm ?_ | refine blkQ_ret ?_ | refine blkQ_exit ?_ | refine loopQ_norm ?_ | refine loopQ_exit ?_ | refine loopQ_ret ?_ | refine endQ_ret ?_ | refine endQ_norm ?_ | refine endE_ret ?_ | refine endE_norm ?_ | refine endI_ret ?_ | refine endI_norm ?_)
        | (with_reducible refine wp_regK fun K hK => ?_
           simp[hw0, hw1, hw2, hw3, hw4, hw]
           repeat' (with_reducible first | refine hK _ ?_ | (refine psel ?_ ?_ <;> (intro hc; (try rw [Decidable.not_not] at hc); first | (exfalso; omega) | (try simp [hc, hw0, hw1, hw2, hw3, hw4, hw]))))
           all_goals (clear hK; clear K))
        | (with_reducible refine wp_condE ?_
           refine ⟨_, rfl, ?_, ?_⟩ <;> (intro hc; (try simp at hc); (all_goals first | (exfalso; omega) | skip))))
      all_goals first | (exfalso; simp_all; done) | exact ⟨(pre ++ [mkRef k1 ⟨y_Buf, y_Gen, y_Kind, y_First, y_Many⟩], rest, k1 + 1 + 1 + 1 + 1 + 1), by simp [mkRef], ⟨by simp [mkRef, ctRef], by simp only; omega, by simp only [List.length_append, List.length_cons, List.length_nil]; omega, by simp only; omega⟩, by simp⟩

@[simp] theorem t177 (k0 : Bool) (l : List XRef) (k : Int) (h0 : 0 ≤ k) (hc : k + ctRefs l ≤ 4611686018427387904) : Gw TT 177 [.one (.ro k0 (.sl 5 ((mkRefs k l).map XRef.e))), vi k] = some (vi (k + ctRefs l), []) := by
  refine Gw_of (F := pf177) rfl rfl ?_
  show Wp _ pb177 _ _
  unfold pb177
  generalize hM : mkRefs k l = M
  have hlen := ctRefs_len l
  repeat' (first
    | with_reducible (first | refine wp_seq ?_ | refine wp_blk ?_ | refine wp_skip ?_ | refine wp_exit ?_ | refine wp_ret ?_ | refine seqQ_norm ?_ | refine seqQ_ret ?_ | refine seqQ_exit ?_ | refine blkQ_norm ?_ | refine blkQ_ret ?_ | refine blkQ_exit ?_ | refine loopQ_norm ?_ | refine loopQ_exit ?_ | refine loopQ_ret ?_ | refine endQ_ret ?_ | refine endQ_norm ?_ | refine endE_ret ?_ | refine endE_norm ?_ | refine endI_ret ?_ | refine endI_norm ?_)
    | (with_reducible refine wp_regK fun K hK => ?_
       simp
       repeat' (with_reducible first | refine hK _ ?_ | (refine psel ?_ ?_ <;> (intro hc; (try rw [Decidable.not_not] at hc); first | (exfalso; omega) | (try simp [hc]))))
       all_goals (clear hK; clear K))
    | (with_reducible refine wp_condE ?_
       refine ⟨_, rfl, ?_, ?_⟩ <;> (intro hc; (try simp at hc); (all_goals first | (exfalso; omega) | skip))))
  · refine wp_loopI (σ := List XRef × List XRef × Int) (fun s => [(0, AV.v k0 (D.sl 5 (M.map XRef.e)), none), (1, AV.v false (di s.2.2), none), (5, AV.v false (di ((s.1.length : Nat) : Int)), none)]) (fun s => M = s.1 ++ mkRefs s.2.2 s.2.1 ∧ s.2.2 + ctRefs s.2.1 = k + ctRefs l ∧ s.1.length + s.2.1.length = l.length ∧ 0 ≤ s.2.2) (fun s => s.2.1.length) ([], l, k) (by simp [hM]) ⟨hM.symm, rfl, by simp, h0⟩ ?_
    rintro ⟨pre, rest, k1⟩ ⟨h1, h2, h3, h4⟩
    simp only at h1 h2 h3 h4
    rcases rest with _ | ⟨⟨y_Buf, y_Gen, y_Kind, y_First, y_Many⟩, rest⟩
    · unfold pl177_0
      simp only [mkRefs, ctRefs, List.append_nil, Int.add_zero] at h1 h2
      subst h1
      repeat' (first
        | with_reducible (first | refine wp_seq ?_ | refine wp_blk ?_ | refine wp_skip ?_ | refine wp_exit ?_ | refine wp_ret ?_ | refine seqQ_norm ?_ | refine seqQ_ret ?_ | refine seqQ_exit ?_ | refine blkQ_norm ?_ | refine blkQ_ret ?_ | refine blkQ_exit ?_ | refine loopQ_norm ?_ | refine loopQ_exit ?_ | refine loopQ_ret ?_ | refine endQ_ret ?_ | refine endQ_norm ?_ | refine endE_ret ?_ | refine endE_norm ?_ | refine endI_ret ?_ | refine endI_norm ?_)
        | (with_reducible refine wp_regK fun K hK => ?_
           simp
           repeat' (with_reducible first | refine hK _ ?_ | (refine psel ?_ ?_ <;> (intro hc; (try rw [Decidable.not_not] at hc); first | (exfalso; omega) | (try simp [hc]))))
           all_goals (clear hK; clear K))
        | (with_reducible refine wp_condE ?_
           refine ⟨_, rfl, ?_, ?_⟩ <;> (intro hc; (try simp at hc); (all_goals first | (exfalso; omega) | skip))))
      all_goals simp [pf177, h2]
    · unfold pl177_0
      simp only [mkRefs, ctRefs, mkRef, ctRef, List.length_cons] at h1 h2 h3
      have hnr := ctRefs_nn rest
      have hw0 : IntKind.wrap .i64 (k1 + 1) = k1 + 1 := wrap_i64 (by omega) (by omega)
      have hw1 : IntKind.wrap .i64 (k1 + 1 + 1) = k1 + 1 + 1 := wrap_i64 (by omega) (by omega)
      have hw2 : IntKind.wrap .i64 (k1 + 1 + 1 + 1) = k1 + 1 + 1 + 1 := wrap_i64 (by omega) (by omega)
      have hw3 : IntKind.wrap .i64 (k1 + 1 + 1 + 1 + 1) = k1 + 1 + 1 + 1 + 1 := wrap_i64 (by omega) (by omega)
      have hw4 : IntKind.wrap .i64 (k1 + 1 + 1 + 1 + 1 + 1) = k1 + 1 + 1 + 1 + 1 + 1 := wrap_i64 (by omega) (by omega)
      have hE : k1 + (1 + 1 + 1 + 1 + 1) = k1 + 1 + 1 + 1 + 1 + 1 := by omega
      rw [hE] at h1
      have hw : IntKind.wrap .i64 ((pre.length : Int) + 1) = (pre.length : Int) + 1 := wrap_i64 (by omega) (by omega)
      subst h1
      repeat' (first
        | with_reducible (first | refine wp_seq ?_ | refine wp_blk ?_ | refine wp_skip ?_ | refine wp_exit ?_ | refine wp_ret ?_ | refine seqQ_norm ?_ | refine seqQ_ret ?_ | refine seqQ_exit ?_ | refine blkQ_norm ?_ | refine blkQ_ret ?_ | refine blkQ_exit ?_ | refine loopQ_norm ?_ | refine loopQ_exit ?_ | refine loopQ_ret ?_ | refine endQ_ret ?_ | refine endQ_norm ?_ | refine endE_ret ?_ | refine endE_norm ?_ | refine endI_ret ?_ | refine endI_norm ?_)
        | (with_reducible refine wp_regK fun K hK => ?_
           simp[hw0, hw1, hw2, hw3, hw4, hw]
           repeat' (with_reducible first | refine hK _ ?_ | (refine psel ?_ ?_ <;> (intro hc; (try rw [Decidable.not_not] at hc); first | (exfalso; omega) | (try simp [hc, hw0, hw1, hw2, hw3, hw4, hw]))))
           all_goals (clear hK; clear K))
        | (with_reducible refine wp_condE ?_
           refine ⟨_, rfl, ?_, ?_⟩ <;> (intro hc; (try simp at hc); (all_goals first | (exfalso; omega) | skip))))
      all_goals first | (exfalso; simp_all; done) | exact ⟨(pre ++ [mkRef k1 ⟨y_Buf, y_Gen, y_Kind, y_First, y_Many⟩], rest, k1 + 1 + 1 + 1 + 1 + 1), by simp [mkRef], ⟨by simp [mkRef, ctRef], by simp only; omega, by simp only [List.length_append, List.length_cons, List.length_nil]; omega, by simp only; omega⟩, by simp⟩

@[simp] theorem t189 (x_Ver : Int) (x_L : List XRef) (k : Int) (h0 : 0 ≤ k) (hc : k + ctRefs x_L ≤ 4611686018427387904) : Gw TT 189 [.st [.ro false (di x_Ver), .own (.sl 5 (x_L.map XRef.e))], vi k] = some (vi (k + ctRefs x_L), [(0, 1, .own (.sl 5 ((mkRefs (k) x_L).map XRef.e)))]) := by
  refine Gw_of (F := pf189) rfl rfl ?_
  show Wp _ pb189 _ _
  unfold pb189
  have hn_x_L := ctRefs_nn x_L
  have hz1 : 0 ≤ k := by omega
  have hy1 : k + ctRefs x_L ≤ 4611686018427387904 := by omega
  repeat' (first
    | with_reducible (first | refine wp_seq ?_ | refine wp_blk ?_ | refine wp_skip ?_ | refine wp_exit ?_ | refine wp_ret ?_ | refine seqQ_norm ?_ | refine seqQ_ret ?_ | refine seqQ_exit ?_ | refine blkQ_norm ?_ | refine blkQ_ret ?_ | refine blkQ_exit ?_ | refine loopQ_norm ?_ | refine loopQ_exit ?_ | refine loopQ_ret ?_ | refine endQ_ret ?_ | refine endQ_norm ?_ | refine endE_ret ?_ | refine endE_norm ?_ | refine endI_ret ?_ | refine endI_norm ?_)
    | (with_reducible refine wp_regK fun K hK => ?_
       simp[hz1, hy1]
       repeat' (with_reducible first | refine hK _ ?_ | (refine psel ?_ ?_ <;> (intro hc; (try rw [Decidable.not_not] at hc); first | (exfalso; omega) | (try simp [hc, hz1, hy1]))))
       all_goals (clear hK; clear K))
    | (with_reducible refine wp_condE ?_
       refine ⟨_, rfl, ?_, ?_⟩ <;> (intro hc; (try simp at hc); (all_goals first | (exfalso; omega) | skip))))
  all_goals first | (simp [pf189]; done) | (exfalso; omega)

@[simp] theorem t174 (k0 : Bool) (x_Ver : Int) (x_L : List XRef) (k : Int) (h0 : 0 ≤ k) (hc : k + ctRefs x_L ≤ 4611686018427387904) : Gw TT 174 [.st [.ro false (di x_Ver), .ro k0 (.sl 5 ((mkRefs (k) x_L).map XRef.e))], vi k] = some (vi (k + ctRefs x_L), []) := by
  refine Gw_of (F := pf174) rfl rfl ?_
  show Wp _ pb174 _ _
  unfold pb174
  have hn_x_L := ctRefs_nn x_L
  have hz1 : 0 ≤ k := by omega
  have hy1 : k + ctRefs x_L ≤ 4611686018427387904 := by omega
  repeat' (first
    | with_reducible (first | refine wp_seq ?_ | refine wp_blk ?_ | refine wp_skip ?_ | refine wp_exit ?_ | refine wp_ret ?_ | refine seqQ_norm ?_ | refine seqQ_ret ?_ | refine seqQ_exit ?_ | refine blkQ_norm ?_ | refine blkQ_ret ?_ | refine blkQ_exit ?_ | refine loopQ_norm ?_ | refine loopQ_exit ?_ | refine loopQ_ret ?_ | refine endQ_ret ?_ | refine endQ_norm ?_ | refine endE_ret ?_ | refine endE_norm ?_ | refine endI_ret ?_ | refine endI_norm ?_)
    | (with_reducible refine wp_regK fun K hK => ?_
       simp[hz1, hy1]
       repeat' (with_reducible first | refine hK _ ?_ | (refine psel ?_ ?_ <;> (intro hc; (try rw [Decidable.not_not] at hc); first | (exfalso; omega) | (try simp [hc, hz1, hy1]))))
       all_goals (clear hK; clear K))
    | (with_reducible refine wp_condE ?_
       refine ⟨_, rfl, ?_, ?_⟩ <;> (intro hc; (try simp at hc); (all_goals first | (exfalso; omega) | skip))))
  all_goals first | (simp [pf174]; done) | (exfalso; omega)

@[simp] theorem take_all1 {α : Type} {n : Nat} (l r : List α) (x : α) (h : n = l.length + (r.length + 1)) : (l ++ x :: r).take n = l ++ x :: r := by
  rw [List.take_of_length_le]
  simp only [List.length_append, List.length_cons]
  omega

@[simp] theorem drop_mid1 {α : Type} {n : Nat} (l r : List α) (x : α) (h : n = l.length + 1) : (l ++ x :: r).drop n = r := by
  subst h
  rw [List.drop_append]
  simp

@[simp] theorem take_len_map {α β : Type} (f : α → β) (l : List α) : (l.map f).take l.length = l.map f := by
  rw [List.take_of_length_le]; simp

@[simp] theorem flatD_drop_map {α : Type} (f : α → List D) (l : List α) (n : Nat) (h : ∀ x, (f x).all D.scal = true) : flatD ((l.map f).drop n) = true := by
  rw [← List.map_drop]; exact flatD_map f _ h

@[simp] theorem flatD_take_map {α : Type} (f : α → List D) (l : List α) (n : Nat) (h : ∀ x, (f x).all D.scal = true) : flatD ((l.map f).take n) = true := by
  rw [← List.map_take]; exact flatD_map f _ h

@[simp] theorem t74 (k0 : Bool) (l : List XRef) (h : l.length ≤ 1048576) : Gw TT 74 [.one (.ro k0 (.sl 5 (l.map XRef.e)))] = some (.one (.own (.sl 5 (l.map XRef.e))), []) := by
  refine Gw_of (F := pf74) rfl rfl ?_
  show Wp _ pb74 _ _
  unfold pb74
  repeat' (first
    | with_reducible (first | refine wp_seq ?_ | refine wp_blk ?_ | refine wp_skip ?_ | refine wp_exit ?_ | refine wp_ret ?_ | refine seqQ_norm ?_ | refine seqQ_ret ?_ | refine seqQ_exit ?_ | refine blkQ_norm ?_ | refine blkQ_ret ?_ | refine blkQ_exit ?_ | refine loopQ_norm ?_ | refine loopQ_exit ?_ | refine loopQ_ret ?_ | refine endQ_ret ?_ | refine endQ_norm ?_ | refine endE_ret ?_ | refine endE_norm ?_ | refine endI_ret ?_ | refine endI_norm ?_)
    | (with_reducible refine wp_regK fun K hK => ?_
       simp[h]
       repeat' (with_reducible first | refine hK _ ?_ | (refine psel ?_ ?_ <;> (intro hc; (try rw [Decidable.not_not] at hc); first | (exfalso; omega) | (try simp [hc, h]))))
       all_goals (clear hK; clear K))
    | (with_reducible refine wp_condE ?_
       refine ⟨_, rfl, ?_, ?_⟩ <;> (intro hc; (try simp at hc); (all_goals first | (exfalso; omega) | skip))))
  all_goals first | (simp [pf74]; done) | (exfalso; omega)

@[simp] theorem t71 (k0 : Bool) (x_Ver : Int) (x_L : List XRef) (h : x_L.length ≤ 1048576) : Gw TT 71 [.st [.ro false (di x_Ver), .ro k0 (.sl 5 (x_L.map XRef.e))]] = some (.st [.ro false (di x_Ver), .own (.sl 5 (x_L.map XRef.e))], []) := by
  refine Gw_of (F := pf71) rfl rfl ?_
  show Wp _ pb71 _ _
  unfold pb71
  have hq : x_L.length * 40 ≤ 70368744177664 := by omega
  repeat' (first
    | with_reducible (first | refine wp_seq ?_ | refine wp_blk ?_ | refine wp_skip ?_ | refine wp_exit ?_ | refine wp_ret ?_ | refine seqQ_norm ?_ | refine seqQ_ret ?_ | refine seqQ_exit ?_ | refine blkQ_norm ?_ | refine blkQ_ret ?_ | refine blkQ_exit ?_ | refine loopQ_norm ?_ | refine loopQ_exit ?_ | refine loopQ_ret ?_ | refine endQ_ret ?_ | refine endQ_norm ?_ | refine endE_ret ?_ | refine endE_norm ?_ | refine endI_ret ?_ | refine endI_norm ?_)
    | (with_reducible refine wp_regK fun K hK => ?_
       simp[h, hq]
       repeat' (with_reducible first | refine hK _ ?_ | (refine psel ?_ ?_ <;> (intro hc; (try rw [Decidable.not_not] at hc); first | (exfalso; omega) | (try simp [hc, h, hq]))))
       all_goals (clear hK; clear K))
    | (with_reducible refine wp_condE ?_
       refine ⟨_, rfl, ?_, ?_⟩ <;> (intro hc; (try simp at hc); (all_goals first | (exfalso; omega) | skip))))
  all_goals first | (simp [pf71]; done) | (exfalso; omega)

@[simp] theorem t368 (k0 : Bool) (x_Ver : Int) (x_L : List XRef) (h : x_L.length ≤ 1048576) : Gw TT 368 [.st [.ro false (di x_Ver), .ro k0 (.sl 5 (x_L.map XRef.e))]] = some (.st [.ro false (di x_Ver), .own (.sl 5 (x_L.map XRef.e))], []) := by
  refine Gw_of (F := pf368) rfl rfl ?_
  show Wp _ pb368 _ _
  unfold pb368
  have hq : x_L.length * 40 ≤ 70368744177664 := by omega
  repeat' (first
    | with_reducible (first | refine wp_seq ?_ | refine wp_blk ?_ | refine wp_skip ?_ | refine wp_exit ?_ | refine wp_ret ?_ | refine seqQ_norm ?_ | refine seqQ_ret ?_ | refine seqQ_exit ?_ | refine blkQ_norm ?_ | refine blkQ_ret ?_ | refine blkQ_exit ?_ | refine loopQ_norm ?_ | refine loopQ_exit ?_ | refine loopQ_ret ?_ | refine endQ_ret ?_ | refine endQ_norm ?_ | refine endE_ret ?_ | refine endE_norm ?_ | refine endI_ret ?_ | refine endI_norm ?_)
    | (with_reducible refine wp_regK fun K hK => ?_
       simp[h, hq]
       repeat' (with_reducible first | refine hK _ ?_ | (refine psel ?_ ?_ <;> (intro hc; (try rw [Decidable.not_not] at hc); first | (exfalso; omega) | (try simp [hc, h, hq]))))
       all_goals (clear hK; clear K))
    | (with_reducible refine wp_condE ?_
       refine ⟨_, rfl, ?_, ?_⟩ <;> (intro hc; (try simp at hc); (all_goals first | (exfalso; omega) | skip))))
  all_goals first | (simp [pf368]; done) | (exfalso; omega)

def swL (i n : Int) (l : List XRef) (r : XRef) : List XRef := l.take i.toNat ++ r :: l.drop (i.toNat + n.toNat)

def swR (i n : Int) (l : List XRef) : Bool := decide (0 ≤ i ∧ i < (l.length : Int) ∧ 1 ≤ n ∧ n ≤ (l.length : Int) - i)

def swOk (v i n : Int) (l : List XRef) (r : XRef) : Bool := swR i n l && (dirOkB (IntKind.wrap .i64 (v + 1)) (swL i n l r) && (endOfF (swL i n l r) == endOfF l))

def swV (v i n : Int) (l : List XRef) (r : XRef) : Int := if swOk v i n l r = true then IntKind.wrap .i64 (v + 1) else v

def swD (v i n : Int) (l : List XRef) (r : XRef) : List XRef := if swOk v i n l r = true then swL i n l r else l

theorem swL_len {i n : Int} {l : List XRef} (r : XRef) (h : swR i n l = true) : (swL i n l r).length ≤ l.length := by
  simp only [swR, decide_eq_true_eq] at h
  simp only [swL, List.length_append, List.length_cons, List.length_take, List.length_drop]
  omega

theorem swD_len (v i n : Int) (l : List XRef) (r : XRef) (h : l.length ≤ 1048576) : (swD v i n l r).length ≤ 1048576 := by
  unfold swD
  split
  · rename_i hA
    simp only [swOk, Bool.and_eq_true] at hA
    exact Nat.le_trans (swL_len r hA.1) h
  · exact h

@[simp] theorem t56 (k0 : Bool) (x_Ver : Int) (x_L : List XRef) (i n : Int) (r_Buf : Int) (r_Gen : Int) (r_Kind : Int) (r_First : Int) (r_Many : Int) (h : x_L.length ≤ 1048576) : Gw TT 56 [.st [.ro false (di x_Ver), .ro k0 (.sl 5 (x_L.map XRef.e))], vi i, vi n, .st [.ro false (di r_Buf), .ro false (di r_Gen), .ro false (di r_Kind), .ro false (di r_First), .ro false (di r_Many)]] = some (.tup [.st [.ro false (di (swV x_Ver i n x_L ⟨r_Buf, r_Gen, r_Kind, r_First, r_Many⟩)), .own (.sl 5 ((swD x_Ver i n x_L ⟨r_Buf, r_Gen, r_Kind, r_First, r_Many⟩).map XRef.e))], vb (swOk x_Ver i n x_L ⟨r_Buf, r_Gen, r_Kind, r_First, r_Many⟩)], []) := by
  refine Gw_of (F := pf56) rfl rfl ?_
  show Wp _ pb56 _ _
  unfold pb56
  by_cases hb : 0 ≤ i ∧ i < (x_L.length : Int) ∧ 1 ≤ n ∧ n ≤ (x_L.length : Int) - i
  · obtain ⟨a, rfl⟩ : ∃ a : Nat, i = (a : Int) := ⟨i.toNat, by omega⟩
    obtain ⟨b, rfl⟩ : ∃ b : Nat, n = (b : Int) := ⟨n.toNat, by omega⟩
    have hR : swR (a : Int) (b : Int) x_L = true := by simp only [swR, decide_eq_true_eq]; exact hb
    have hl := swL_len ⟨r_Buf, r_Gen, r_Kind, r_First, r_Many⟩ hR
    have g1 := t15g true (IntKind.wrap .i64 (x_Ver + 1)) (swL (a : Int) (b : Int) x_L ⟨r_Buf, r_Gen, r_Kind, r_First, r_Many⟩) (by omega)
    have g2 := t16 true (IntKind.wrap .i64 (x_Ver + 1)) (swL (a : Int) (b : Int) x_L ⟨r_Buf, r_Gen, r_Kind, r_First, r_Many⟩) (by omega)
    have hw1 : IntKind.wrap .i64 ((x_L.length : Int) - 1) = (x_L.length : Int) - 1 := wrap_i64 (by omega) (by omega)
    have hw2 : IntKind.wrap .i64 ((x_L.length : Int) - (a : Int)) = (x_L.length : Int) - (a : Int) := wrap_i64 (by omega) (by omega)
    have hw3 : IntKind.wrap .i64 ((a : Int) + (b : Int)) = (a : Int) + (b : Int) := wrap_i64 (by omega) (by omega)
    have hn : ((a : Int) + (b : Int)).toNat = a + b := by omega
    have hm : min a x_L.length = a := by omega
    have g0 := t74 k0 (x_L.take a) (by simp only [List.length_take]; omega)
    simp only [List.map_take] at g0
    have hq1 : a * 40 ≤ 70368744177664 := by omega
    have hq2 : (a + 1) * 40 ≤ 70368744177664 := by omega
    have hq3 : (a + 1 + (x_L.length - (a + b))) * 40 ≤ 70368744177664 := by omega
    have hq4 : (a + ((x_L.length - (a + b)) + 1)) * 40 ≤ 70368744177664 := by omega
    have hb1 : a ≤ x_L.length := by omega
    have hb2 : (a : Int) + (b : Int) ≤ (x_L.length : Int) := by omega
    have hb3 : (0 : Int) ≤ (a : Int) + (b : Int) := by omega
    have hb4 : (a : Int) < (x_L.length : Int) := by omega
    have hb5 : a < x_L.length := by omega
    cases hA : dirOkB (IntKind.wrap .i64 (x_Ver + 1)) (swL (a : Int) (b : Int) x_L ⟨r_Buf, r_Gen, r_Kind, r_First, r_Many⟩) with
    | true =>
      cases hD : (endOfF (swL (a : Int) (b : Int) x_L ⟨r_Buf, r_Gen, r_Kind, r_First, r_Many⟩) == endOfF x_L) with
      | true =>
        have hO : swOk x_Ver (a : Int) (b : Int) x_L ⟨r_Buf, r_Gen, r_Kind, r_First, r_Many⟩ = true := by simp [swOk, hR, hA, hD]
        rw [hA] at g1
        rw [beq_iff_eq] at hD
        rw [hD] at g2
        simp only [swL, Int.toNat_natCast, List.map_append, List.map_cons, List.map_take, List.map_drop, XRef.e] at g1 g2
        repeat' (first
          | with_reducible (first | refine wp_seq ?_ | refine wp_blk ?_ | refine wp_skip ?_ | refine wp_exit ?_ | refine wp_ret ?_ | refine seqQ_norm ?_ | refine seqQ_ret ?_ | refine seqQ_exit ?_ | refine blkQ_norm ?_ | refine blkQ_ret ?_ | refine blkQ_exit ?_ | refine loopQ_norm ?_ | refine loopQ_exit ?_ | refine loopQ_ret ?_ | refine endQ_ret ?_ | refine endQ_norm ?_ | refine endE_ret ?_ | refine endE_norm ?_ | refine endI_ret ?_ | refine endI_norm ?_)
          | (with_reducible refine wp_regK fun K hK => ?_
             simp[g0, g1, g2, h, hw1, hw2, hw3, hn, hm, hq1, hq2, hq3, hq4, hb1, hb2, hb3, hb4, hb5]
             repeat' (with_reducible first | refine hK _ ?_ | (refine psel ?_ ?_ <;> (intro hc; (try rw [Decidable.not_not] at hc); first | (exfalso; omega) | (try simp [hc, g0, g1, g2, h, hw1, hw2, hw3, hn, hm, hq1, hq2, hq3, hq4, hb1, hb2, hb3, hb4, hb5]))))
             all_goals (clear hK; clear K))
          | (with_reducible refine wp_condE ?_
             refine ⟨_, rfl, ?_, ?_⟩ <;> (intro hc; (try simp at hc); (all_goals first | (exfalso; omega) | skip))))
        all_goals first | (simp [pf56, swV, swD, swL, hO]; done) | (exfalso; omega)
      | false =>
        have hO : swOk x_Ver (a : Int) (b : Int) x_L ⟨r_Buf, r_Gen, r_Kind, r_First, r_Many⟩ = false := by simp [swOk, hR, hA, hD]
        rw [hA] at g1
        have hD' : ¬ endOfF (swL (a : Int) (b : Int) x_L ⟨r_Buf, r_Gen, r_Kind, r_First, r_Many⟩) = endOfF x_L := by simpa using hD
        generalize endOfF (swL (a : Int) (b : Int) x_L ⟨r_Buf, r_Gen, r_Kind, r_First, r_Many⟩) = E at g2 hD'
        simp only [swL, Int.toNat_natCast, List.map_append, List.map_cons, List.map_take, List.map_drop, XRef.e] at g1 g2
        repeat' (first
          | with_reducible (first | refine wp_seq ?_ | refine wp_blk ?_ | refine wp_skip ?_ | refine wp_exit ?_ | refine wp_ret ?_ | refine seqQ_norm ?_ | refine seqQ_ret ?_ | refine seqQ_exit ?_ | refine blkQ_norm ?_ | refine blkQ_ret ?_ | refine blkQ_exit ?_ | refine loopQ_norm ?_ | refine loopQ_exit ?_ | refine loopQ_ret ?_ | refine endQ_ret ?_ | refine endQ_norm ?_ | refine endE_ret ?_ | refine endE_norm ?_ | refine endI_ret ?_ | refine endI_norm ?_)
          | (with_reducible refine wp_regK fun K hK => ?_
             simp[g0, g1, g2, h, hw1, hw2, hw3, hn, hm, hq1, hq2, hq3, hq4, hb1, hb2, hb3, hb4, hb5, hD']
             repeat' (with_reducible first | refine hK _ ?_ | (refine psel ?_ ?_ <;> (intro hc; (try rw [Decidable.not_not] at hc); first | (exfalso; omega) | (try simp [hc, g0, g1, g2, h, hw1, hw2, hw3, hn, hm, hq1, hq2, hq3, hq4, hb1, hb2, hb3, hb4, hb5, hD']))))
             all_goals (clear hK; clear K))
          | (with_reducible refine wp_condE ?_
             refine ⟨_, rfl, ?_, ?_⟩ <;> (intro hc; (try simp at hc); (all_goals first | (exfalso; omega) | skip))))
        all_goals first | (simp [pf56, swV, swD, swL, hO]; done) | (exfalso; omega) | (exfalso; exact hD' (by assumption))
    | false =>
      have hO : swOk x_Ver (a : Int) (b : Int) x_L ⟨r_Buf, r_Gen, r_Kind, r_First, r_Many⟩ = false := by simp [swOk, hR, hA]
      rw [hA] at g1
      simp only [swL, Int.toNat_natCast, List.map_append, List.map_cons, List.map_take, List.map_drop, XRef.e] at g1 g2
      repeat' (first
        | with_reducible (first | refine wp_seq ?_ | refine wp_blk ?_ | refine wp_skip ?_ | refine wp_exit ?_ | refine wp_ret ?_ | refine seqQ_norm ?_ | refine seqQ_ret ?_ | refine seqQ_exit ?_ | refine blkQ_norm ?_ | refine blkQ_ret ?_ | refine blkQ_exit ?_ | refine loopQ_norm ?_ | refine loopQ_exit ?_ | refine loopQ_ret ?_ | refine endQ_ret ?_ | refine endQ_norm ?_ | refine endE_ret ?_ | refine endE_norm ?_ | refine endI_ret ?_ | refine endI_norm ?_)
        | (with_reducible refine wp_regK fun K hK => ?_
           simp[g0, g1, g2, h, hw1, hw2, hw3, hn, hm, hq1, hq2, hq3, hq4, hb1, hb2, hb3, hb4, hb5]
           repeat' (with_reducible first | refine hK _ ?_ | (refine psel ?_ ?_ <;> (intro hc; (try rw [Decidable.not_not] at hc); first | (exfalso; omega) | (try simp [hc, g0, g1, g2, h, hw1, hw2, hw3, hn, hm, hq1, hq2, hq3, hq4, hb1, hb2, hb3, hb4, hb5]))))
           all_goals (clear hK; clear K))
        | (with_reducible refine wp_condE ?_
           refine ⟨_, rfl, ?_, ?_⟩ <;> (intro hc; (try simp at hc); (all_goals first | (exfalso; omega) | skip))))
      all_goals first | (simp [pf56, swV, swD, swL, hO]; done) | (exfalso; omega)
  · have hO : swOk x_Ver i n x_L ⟨r_Buf, r_Gen, r_Kind, r_First, r_Many⟩ = false := by
      have : swR i n x_L = false := by simp only [swR, decide_eq_false_iff_not]; exact hb
      simp [swOk, this]
    have hw1 : IntKind.wrap .i64 ((x_L.length : Int) - 1) = (x_L.length : Int) - 1 := wrap_i64 (by omega) (by omega)
    by_cases h0 : 0 ≤ i ∧ i ≤ (x_L.length : Int)
    · have hw2 : IntKind.wrap .i64 ((x_L.length : Int) - i) = (x_L.length : Int) - i := wrap_i64 (by omega) (by omega)
      repeat' (first
        | with_reducible (first | refine wp_seq ?_ | refine wp_blk ?_ | refine wp_skip ?_ | refine wp_exit ?_ | refine wp_ret ?_ | refine seqQ_norm ?_ | refine seqQ_ret ?_ | refine seqQ_exit ?_ | refine blkQ_norm ?_ | refine blkQ_ret ?_ | refine blkQ_exit ?_ | refine loopQ_norm ?_ | refine loopQ_exit ?_ | refine loopQ_ret ?_ | refine endQ_ret ?_ | refine endQ_norm ?_ | refine endE_ret ?_ | refine endE_norm ?_ | refine endI_ret ?_ | refine endI_norm ?_)
        | (with_reducible refine wp_regK fun K hK => ?_
           simp[h, hw1, hw2]
           repeat' (with_reducible first | refine hK _ ?_ | (refine psel ?_ ?_ <;> (intro hc; (try rw [Decidable.not_not] at hc); first | (exfalso; omega) | (try simp [hc, h, hw1, hw2]))))
           all_goals (clear hK; clear K))
        | (with_reducible refine wp_condE ?_
           refine ⟨_, rfl, ?_, ?_⟩ <;> (intro hc; (try simp at hc); (all_goals first | (exfalso; omega) | skip))))
      all_goals first | (simp [pf56, swV, swD, hO]; done) | (exfalso; omega)
    · repeat' (first
        | with_reducible (first | refine wp_seq ?_ | refine wp_blk ?_ | refine wp_skip ?_ | refine wp_exit ?_ | refine wp_ret ?_ | refine seqQ_norm ?_ | refine seqQ_ret ?_ | refine seqQ_exit ?_ | refine blkQ_norm ?_ | refine blkQ_ret ?_ | refine blkQ_exit ?_ | refine loopQ_norm ?_ | refine loopQ_exit ?_ | refine loopQ_ret ?_ | refine endQ_ret ?_ | refine endQ_norm ?_ | refine endE_ret ?_ | refine endE_norm ?_ | refine endI_ret ?_ | refine endI_norm ?_)
        | (with_reducible refine wp_regK fun K hK => ?_
           simp[h, hw1]
           repeat' (with_reducible first | refine hK _ ?_ | (refine psel ?_ ?_ <;> (intro hc; (try rw [Decidable.not_not] at hc); first | (exfalso; omega) | (try simp [hc, h, hw1]))))
           all_goals (clear hK; clear K))
        | (with_reducible refine wp_condE ?_
           refine ⟨_, rfl, ?_, ?_⟩ <;> (intro hc; (try simp at hc); (all_goals first | (exfalso; omega) | skip))))
      all_goals first | (simp [pf56, swV, swD, hO]; done) | (exfalso; omega)

@[simp] theorem t337 (k0 : Bool) (x_Ver : Int) (x_L : List XRef) (i n : Int) (r_Buf : Int) (r_Gen : Int) (r_Kind : Int) (r_First : Int) (r_Many : Int) (h : x_L.length ≤ 1048576) : Gw TT 337 [.st [.ro false (di x_Ver), .ro k0 (.sl 5 (x_L.map XRef.e))], vi i, vi n, .st [.ro false (di r_Buf), .ro false (di r_Gen), .ro false (di r_Kind), .ro false (di r_First), .ro false (di r_Many)]] = some (.tup [.st [.ro false (di (swV x_Ver i n x_L ⟨r_Buf, r_Gen, r_Kind, r_First, r_Many⟩)), .own (.sl 5 ((swD x_Ver i n x_L ⟨r_Buf, r_Gen, r_Kind, r_First, r_Many⟩).map XRef.e))], vb (swOk x_Ver i n x_L ⟨r_Buf, r_Gen, r_Kind, r_First, r_Many⟩)], []) := by
  refine Gw_of (F := pf337) rfl rfl ?_
  show Wp _ pb337 _ _
  unfold pb337
  by_cases hb : 0 ≤ i ∧ i < (x_L.length : Int) ∧ 1 ≤ n ∧ n ≤ (x_L.length : Int) - i
  · obtain ⟨a, rfl⟩ : ∃ a : Nat, i = (a : Int) := ⟨i.toNat, by omega⟩
    obtain ⟨b, rfl⟩ : ∃ b : Nat, n = (b : Int) := ⟨n.toNat, by omega⟩
    have hR : swR (a : Int) (b : Int) x_L = true := by simp only [swR, decide_eq_true_eq]; exact hb
    have hl := swL_len ⟨r_Buf, r_Gen, r_Kind, r_First, r_Many⟩ hR
    have g1 := t271g true (IntKind.wrap .i64 (x_Ver + 1)) (swL (a : Int) (b : Int) x_L ⟨r_Buf, r_Gen, r_Kind, r_First, r_Many⟩) (by omega)
    have g2 := t296 true (IntKind.wrap .i64 (x_Ver + 1)) (swL (a : Int) (b : Int) x_L ⟨r_Buf, r_Gen, r_Kind, r_First, r_Many⟩) (by omega)
    have hw1 : IntKind.wrap .i64 ((x_L.length : Int) - 1) = (x_L.length : Int) - 1 := wrap_i64 (by omega) (by omega)
    have hw2 : IntKind.wrap .i64 ((x_L.length : Int) - (a : Int)) = (x_L.length : Int) - (a : Int) := wrap_i64 (by omega) (by omega)
    have hw3 : IntKind.wrap .i64 ((a : Int) + (b : Int)) = (a : Int) + (b : Int) := wrap_i64 (by omega) (by omega)
    have hn : ((a : Int) + (b : Int)).toNat = a + b := by omega
    have hm : min a x_L.length = a := by omega
    have g0 := t74 k0 (x_L.take a) (by simp only [List.length_take]; omega)
    simp only [List.map_take] at g0
    have hq1 : a * 40 ≤ 70368744177664 := by omega
    have hq2 : (a + 1) * 40 ≤ 70368744177664 := by omega
    have hq3 : (a + 1 + (x_L.length - (a + b))) * 40 ≤ 70368744177664 := by omega
    have hq4 : (a + ((x_L.length - (a + b)) + 1)) * 40 ≤ 70368744177664 := by omega
    have hb1 : a ≤ x_L.length := by omega
    have hb2 : (a : Int) + (b : Int) ≤ (x_L.length : Int) := by omega
    have hb3 : (0 : Int) ≤ (a : Int) + (b : Int) := by omega
    have hb4 : (a : Int) < (x_L.length : Int) := by omega
    have hb5 : a < x_L.length := by omega
    cases hA : dirOkB (IntKind.wrap .i64 (x_Ver + 1)) (swL (a : Int) (b : Int) x_L ⟨r_Buf, r_Gen, r_Kind, r_First, r_Many⟩) with
    | true =>
      cases hD : (endOfF (swL (a : Int) (b : Int) x_L ⟨r_Buf, r_Gen, r_Kind, r_First, r_Many⟩) == endOfF x_L) with
      | true =>
        have hO : swOk x_Ver (a : Int) (b : Int) x_L ⟨r_Buf, r_Gen, r_Kind, r_First, r_Many⟩ = true := by simp [swOk, hR, hA, hD]
        rw [hA] at g1
        rw [beq_iff_eq] at hD
        rw [hD] at g2
        simp only [swL, Int.toNat_natCast, List.map_append, List.map_cons, List.map_take, List.map_drop, XRef.e] at g1 g2
        repeat' (first
          | with_reducible (first | refine wp_seq ?_ | refine wp_blk ?_ | refine wp_skip ?_ | refine wp_exit ?_ | refine wp_ret ?_ | refine seqQ_norm ?_ | refine seqQ_ret ?_ | refine seqQ_exit ?_ | refine blkQ_norm ?_ | refine blkQ_ret ?_ | refine blkQ_exit ?_ | refine loopQ_norm ?_ | refine loopQ_exit ?_ | refine loopQ_ret ?_ | refine endQ_ret ?_ | refine endQ_norm ?_ | refine endE_ret ?_ | refine endE_norm ?_ | refine endI_ret ?_ | refine endI_norm ?_)
          | (with_reducible refine wp_regK fun K hK => ?_
             simp[g0, g1, g2, h, hw1, hw2, hw3, hn, hm, hq1, hq2, hq3, hq4, hb1, hb2, hb3, hb4, hb5]
             repeat' (with_reducible first | refine hK _ ?_ | (refine psel ?_ ?_ <;> (intro hc; (try rw [Decidable.not_not] at hc); first | (exfalso; omega) | (try simp [hc, g0, g1, g2, h, hw1, hw2, hw3, hn, hm, hq1, hq2, hq3, hq4, hb1, hb2, hb3, hb4, hb5]))))
             all_goals (clear hK; clear K))
          | (with_reducible refine wp_condE ?_
             refine ⟨_, rfl, ?_, ?_⟩ <;> (intro hc; (try simp at hc); (all_goals first | (exfalso; omega) | skip))))
        all_goals first | (simp [pf337, swV, swD, swL, hO]; done) | (exfalso; omega)
      | false =>
        have hO : swOk x_Ver (a : Int) (b : Int) x_L ⟨r_Buf, r_Gen, r_Kind, r_First, r_Many⟩ = false := by simp [swOk, hR, hA, hD]
        rw [hA] at g1
        have hD' : ¬ endOfF (swL (a : Int) (b : Int) x_L ⟨r_Buf, r_Gen, r_Kind, r_First, r_Many⟩) = endOfF x_L := by simpa using hD
        generalize endOfF (swL (a : Int) (b : Int) x_L ⟨r_Buf, r_Gen, r_Kind, r_First, r_Many⟩) = E at g2 hD'
        simp only [swL, Int.toNat_natCast, List.map_append, List.map_cons, List.map_take, List.map_drop, XRef.e] at g1 g2
        repeat' (first
          | with_reducible (first | refine wp_seq ?_ | refine wp_blk ?_ | refine wp_skip ?_ | refine wp_exit ?_ | refine wp_ret ?_ | refine seqQ_norm ?_ | refine seqQ_ret ?_ | refine seqQ_exit ?_ | refine blkQ_norm ?_ | refine blkQ_ret ?_ | refine blkQ_exit ?_ | refine loopQ_norm ?_ | refine loopQ_exit ?_ | refine loopQ_ret ?_ | refine endQ_ret ?_ | refine endQ_norm ?_ | refine endE_ret ?_ | refine endE_norm ?_ | refine endI_ret ?_ | refine endI_norm ?_)
          | (with_reducible refine wp_regK fun K hK => ?_
             simp[g0, g1, g2, h, hw1, hw2, hw3, hn, hm, hq1, hq2, hq3, hq4, hb1, hb2, hb3, hb4, hb5, hD']
             repeat' (with_reducible first | refine hK _ ?_ | (refine psel ?_ ?_ <;> (intro hc; (try rw [Decidable.not_not] at hc); first | (exfalso; omega) | (try simp [hc, g0, g1, g2, h, hw1, hw2, hw3, hn, hm, hq1, hq2, hq3, hq4, hb1, hb2, hb3, hb4, hb5, hD']))))
             all_goals (clear hK; clear K))
          | (with_reducible refine wp_condE ?_
             refine ⟨_, rfl, ?_, ?_⟩ <;> (intro hc; (try simp at hc); (all_goals first | (exfalso; omega) | skip))))
        all_goals first | (simp [pf337, swV, swD, swL, hO]; done) | (exfalso; omega) | (exfalso; exact hD' (by assumption))
    | false =>
      have hO : swOk x_Ver (a : Int) (b : Int) x_L ⟨r_Buf, r_Gen, r_Kind, r_First, r_Many⟩ = false := by simp [swOk, hR, hA]
      rw [hA] at g1
      simp only [swL, Int.toNat_natCast, List.map_append, List.map_cons, List.map_take, List.map_drop, XRef.e] at g1 g2
      repeat' (first
        | with_reducible (first | refine wp_seq ?_ | refine wp_blk ?_ | refine wp_skip ?_ | refine wp_exit ?_ | refine wp_ret ?_ | refine seqQ_norm ?_ | refine seqQ_ret ?_ | refine seqQ_exit ?_ | refine blkQ_norm ?_ | refine blkQ_ret ?_ | refine blkQ_exit ?_ | refine loopQ_norm ?_ | refine loopQ_exit ?_ | refine loopQ_ret ?_ | refine endQ_ret ?_ | refine endQ_norm ?_ | refine endE_ret ?_ | refine endE_norm ?_ | refine endI_ret ?_ | refine endI_norm ?_)
        | (with_reducible refine wp_regK fun K hK => ?_
           simp[g0, g1, g2, h, hw1, hw2, hw3, hn, hm, hq1, hq2, hq3, hq4, hb1, hb2, hb3, hb4, hb5]
           repeat' (with_reducible first | refine hK _ ?_ | (refine psel ?_ ?_ <;> (intro hc; (try rw [Decidable.not_not] at hc); first | (exfalso; omega) | (try simp [hc, g0, g1, g2, h, hw1, hw2, hw3, hn, hm, hq1, hq2, hq3, hq4, hb1, hb2, hb3, hb4, hb5]))))
           all_goals (clear hK; clear K))
        | (with_reducible refine wp_condE ?_
           refine ⟨_, rfl, ?_, ?_⟩ <;> (intro hc; (try simp at hc); (all_goals first | (exfalso; omega) | skip))))
      all_goals first | (simp [pf337, swV, swD, swL, hO]; done) | (exfalso; omega)
  · have hO : swOk x_Ver i n x_L ⟨r_Buf, r_Gen, r_Kind, r_First, r_Many⟩ = false := by
      have : swR i n x_L = false := by simp only [swR, decide_eq_false_iff_not]; exact hb
      simp [swOk, this]
    have hw1 : IntKind.wrap .i64 ((x_L.length : Int) - 1) = (x_L.length : Int) - 1 := wrap_i64 (by omega) (by omega)
    by_cases h0 : 0 ≤ i ∧ i ≤ (x_L.length : Int)
    · have hw2 : IntKind.wrap .i64 ((x_L.length : Int) - i) = (x_L.length : Int) - i := wrap_i64 (by omega) (by omega)
      repeat' (first
        | with_reducible (first | refine wp_seq ?_ | refine wp_blk ?_ | refine wp_skip ?_ | refine wp_exit ?_ | refine wp_ret ?_ | refine seqQ_norm ?_ | refine seqQ_ret ?_ | refine seqQ_exit ?_ | refine blkQ_norm ?_ | refine blkQ_ret ?_ | refine blkQ_exit ?_ | refine loopQ_norm ?_ | refine loopQ_exit ?_ | refine loopQ_ret ?_ | refine endQ_ret ?_ | refine endQ_norm ?_ | refine endE_ret ?_ | refine endE_norm ?_ | refine endI_ret ?_ | refine endI_norm ?_)
        | (with_reducible refine wp_regK fun K hK => ?_
           simp[h, hw1, hw2]
           repeat' (with_reducible first | refine hK _ ?_ | (refine psel ?_ ?_ <;> (intro hc; (try rw [Decidable.not_not] at hc); first | (exfalso; omega) | (try simp [hc, h, hw1, hw2]))))
           all_goals (clear hK; clear K))
        | (with_reducible refine wp_condE ?_
           refine ⟨_, rfl, ?_, ?_⟩ <;> (intro hc; (try simp at hc); (all_goals first | (exfalso; omega) | skip))))
      all_goals first | (simp [pf337, swV, swD, hO]; done) | (exfalso; omega)
    · repeat' (first
        | with_reducible (first | refine wp_seq ?_ | refine wp_blk ?_ | refine wp_skip ?_ | refine wp_exit ?_ | refine wp_ret ?_ | refine seqQ_norm ?_ | refine seqQ_ret ?_ | refine seqQ_exit ?_ | refine blkQ_norm ?_ | refine blkQ_ret ?_ | refine blkQ_exit ?_ | refine loopQ_norm ?_ | refine loopQ_exit ?_ | refine loopQ_ret ?_ | refine endQ_ret ?_ | refine endQ_norm ?_ | refine endE_ret ?_ | refine endE_norm ?_ | refine endI_ret ?_ | refine endI_norm ?_)
        | (with_reducible refine wp_regK fun K hK => ?_
           simp[h, hw1]
           repeat' (with_reducible first | refine hK _ ?_ | (refine psel ?_ ?_ <;> (intro hc; (try rw [Decidable.not_not] at hc); first | (exfalso; omega) | (try simp [hc, h, hw1]))))
           all_goals (clear hK; clear K))
        | (with_reducible refine wp_condE ?_
           refine ⟨_, rfl, ?_, ?_⟩ <;> (intro hc; (try simp at hc); (all_goals first | (exfalso; omega) | skip))))
      all_goals first | (simp [pf337, swV, swD, hO]; done) | (exfalso; omega)

theorem t130 (aD_Ver : Int) (aD_L : List XRef) (aI : Int) (aN : Int) (aR_Buf : Int) (aR_Gen : Int) (aR_Kind : Int) (aR_First : Int) (aR_Many : Int) (hok_aD_L : aD_L.length ≤ 9223372036854775807) : Gw TT 130 [.st [.ro false (di aD_Ver), .ro false (.sl 5 (aD_L.map XRef.e))], .one (.ro false (di aI)), .one (.ro false (di aN)), .st [.ro false (di aR_Buf), .ro false (di aR_Gen), .ro false (di aR_Kind), .ro false (di aR_First), .ro false (di aR_Many)]] = some (vb true, []) := by
  refine Gw_of (F := pf130) rfl rfl ?_
  show Wp _ pb130 _ _
  unfold pb130
  obtain ⟨n1, g1, a1, b1, s1⟩ := t218 false aD_Ver aD_L 1048576 (by omega) (by omega) hok_aD_L
  repeat' (first
    | with_reducible (first | refine wp_seq ?_ | refine wp_blk ?_ | refine wp_skip ?_ | refine wp_exit ?_ | refine wp_ret ?_ | refine seqQ_norm ?_ | refine seqQ_ret ?_ | refine seqQ_exit ?_ | refine blkQ_norm ?_ | refine blkQ_ret ?_ | refine blkQ_exit ?_ | refine loopQ_norm ?_ | refine loopQ_exit ?_ | refine loopQ_ret ?_ | refine endQ_ret ?_ | refine endQ_norm ?_ | refine endE_ret ?_ | refine endE_norm ?_ | refine endI_ret ?_ | refine endI_norm ?_)
    | (with_reducible refine wp_regK fun K hK => ?_
       simp[g1]
       repeat' (with_reducible first | refine hK _ ?_ | (refine psel ?_ ?_ <;> (intro hc; (try rw [Decidable.not_not] at hc); first | (exfalso; omega) | (try simp [hc, g1]))))
       all_goals (clear hK; clear K))
    | (with_reducible refine wp_condE ?_
       refine ⟨_, rfl, ?_, ?_⟩ <;> (intro hc; (try simp at hc); (all_goals first | (exfalso; omega) | skip))))
  · simp [pf130]
  have q1 := s1 (by omega)
  have hsm_aD_L := q1
  have cn0 := ctRefs_nn (aD_L)
  have cl0 := ctRefs_le (aD_L)
  have ch0 : (aD_L).length ≤ 1048576 := hsm_aD_L
  have cb0 : 1 + ctRefs aD_L ≤ 4611686018427387904 := by omega
  have cn1 := ctRefs_nn (swD aD_Ver aI aN aD_L ⟨aR_Buf, aR_Gen, aR_Kind, aR_First, aR_Many⟩)
  have cl1 := ctRefs_le (swD aD_Ver aI aN aD_L ⟨aR_Buf, aR_Gen, aR_Kind, aR_First, aR_Many⟩)
  have ch1 : (swD aD_Ver aI aN aD_L ⟨aR_Buf, aR_Gen, aR_Kind, aR_First, aR_Many⟩).length ≤ 1048576 := swD_len _ _ _ _ _ hsm_aD_L
  have cb1 : 1 + ctRefs (swD aD_Ver aI aN aD_L ⟨aR_Buf, aR_Gen, aR_Kind, aR_First, aR_Many⟩) ≤ 4611686018427387904 := by omega
  repeat' (first
    | with_reducible (first | refine wp_seq ?_ | refine wp_blk ?_ | refine wp_skip ?_ | refine wp_exit ?_ | refine wp_ret ?_ | refine seqQ_norm ?_ | refine seqQ_ret ?_ | refine seqQ_exit ?_ | refine blkQ_norm ?_ | refine blkQ_ret ?_ | refine blkQ_exit ?_ | refine loopQ_norm ?_ | refine loopQ_exit ?_ | refine loopQ_ret ?_ | refine endQ_ret ?_ | refine endQ_norm ?_ | refine endE_ret ?_ | refine endE_norm ?_ | refine endI_ret ?_ | refine endI_norm ?_)
    | (with_reducible refine wp_regK fun K hK => ?_
       simp[hsm_aD_L, ch0, cb0, ch1, cb1]
       repeat' (with_reducible first | refine hK _ ?_ | (refine psel ?_ ?_ <;> (intro hc; (try rw [Decidable.not_not] at hc); first | (exfalso; omega) | (try simp [hc, hsm_aD_L, ch0, cb0, ch1, cb1]))))
       all_goals (clear hK; clear K))
    | (with_reducible refine wp_condE ?_
       refine ⟨_, rfl, ?_, ?_⟩ <;> (intro hc; (try simp at hc); (all_goals first | (exfalso; omega) | skip))))
  all_goals first | (simp [pf130]; done) | (simp_all [pf130]; done)

@[simp] theorem live_int (k : IntKind) (n : Int) : (D.int k n).live = true := rfl

@[simp] theorem live_bool (b : Bool) : (D.bool b).live = true := rfl

@[simp] theorem live_str (s : ByteArray) : (D.str s).live = true := rfl

@[simp] theorem live_sl (sz : Nat) (es : List (List D)) : (D.sl sz es).live = true := rfl

end Go.Proofs.Ytkhgflloifjniaa.OM
