/- What the functions answer. -/
import Derived.Test.YtloninhfmfggaaaOMTypes
import Derived.Test.YtloninhfmfggaaaOMTac2
import Derived.Test.YtloninhfmfggaaaXRowsOfPc0
set_option linter.all false
namespace Go.Proofs.Ytloninhfmfggaaa.OM
set_option maxHeartbeats 4000000
set_option maxRecDepth 100000

def tab : List (Nat × PF) := [(7, pf7), (44, pf44), (76, pf76), (123, pf123), (145, pf145), (159, pf159), (160, pf160), (161, pf161), (162, pf162), (165, pf165), (166, pf166), (178, pf178), (181, pf181), (185, pf185), (193, pf193), (194, pf194), (196, pf196), (197, pf197), (213, pf213), (227, pf227), (228, pf228), (231, pf231), (232, pf232), (237, pf237), (253, pf253), (254, pf254), (257, pf257), (258, pf258), (263, pf263), (325, pf325), (377, pf377)]
def TT (k : Nat) : Option PF := tab.lookup k

@[simp] theorem t257 (x_Ty : Int) (x_N : Int) (x_S : ByteArray)  : Gw TT 257 [.st [.ro false (di x_Ty), .ro false (di x_N), .ro false (.str x_S)]] = some (.st [.ro false (di x_Ty), .ro false (di x_N), .ro false (.str x_S)], []) := by
  refine Gw_of (F := pf257) rfl rfl ?_
  show Wp _ pb257 _ _
  unfold pb257
  repeat' (first
    | with_reducible (first | refine wp_seq ?_ | refine wp_blk ?_ | refine wp_skip ?_ | refine wp_exit ?_ | refine wp_ret ?_ | refine seqQ_norm ?_ | refine seqQ_ret ?_ | refine seqQ_exit ?_ | refine blkQ_norm ?_ | refine blkQ_ret ?_ | refine blkQ_exit ?_ | refine loopQ_norm ?_ | refine loopQ_exit ?_ | refine loopQ_ret ?_ | refine endQ_ret ?_ | refine endQ_norm ?_ | refine endE_ret ?_ | refine endE_norm ?_ | refine endI_ret ?_ | refine endI_norm ?_)
    | (with_reducible refine wp_regK fun K hK => ?_
       simp
       repeat' (with_reducible first | refine hK _ ?_ | (refine psel ?_ ?_ <;> (intro hc; (try rw [Decidable.not_not] at hc); first | (exfalso; omega) | (try simp [hc]))))
       all_goals (clear hK; clear K))
    | (with_reducible refine wp_condE ?_
       refine ⟨_, rfl, ?_, ?_⟩ <;> (intro hc; (try simp at hc); (all_goals first | (exfalso; omega) | skip))))
  all_goals simp [pf257]

@[simp] theorem t258 (k0 : Bool) (l : List XVal) (h : l.length ≤ 1048576) (hs : XVal.sms l) : Gw TT 258 [.one (.ro k0 (.sl 3 (l.map XVal.e)))] = some (.one (.own (.sl 3 (l.map XVal.e))), []) := by
  refine Gw_of (F := pf258) rfl rfl ?_
  show Wp _ pb258 _ _
  unfold pb258
  repeat' (first
    | with_reducible (first | refine wp_seq ?_ | refine wp_blk ?_ | refine wp_skip ?_ | refine wp_exit ?_ | refine wp_ret ?_ | refine seqQ_norm ?_ | refine seqQ_ret ?_ | refine seqQ_exit ?_ | refine blkQ_norm ?_ | refine blkQ_ret ?_ | refine blkQ_exit ?_ | refine loopQ_norm ?_ | refine loopQ_exit ?_ | refine loopQ_ret ?_ | refine endQ_ret ?_ | refine endQ_norm ?_ | refine endE_ret ?_ | refine endE_norm ?_ | refine endI_ret ?_ | refine endI_norm ?_)
    | (with_reducible refine wp_regK fun K hK => ?_
       simp
       repeat' (with_reducible first | refine hK _ ?_ | (refine psel ?_ ?_ <;> (intro hc; (try rw [Decidable.not_not] at hc); first | (exfalso; omega) | (try simp [hc]))))
       all_goals (clear hK; clear K))
    | (with_reducible refine wp_condE ?_
       refine ⟨_, rfl, ?_, ?_⟩ <;> (intro hc; (try simp at hc); (all_goals first | (exfalso; omega) | skip))))
  · refine wp_loopI (σ := List XVal × List XVal) (fun s => [(0, AV.v k0 (D.sl 3 (List.map XVal.e l)), none), (3, AV.pl 3 0 [], some (Rt.vir [C.own (D.sl 3 (s.1.map XVal.e ++ List.replicate s.2.length [.int .i64 0, .int .i64 0, .str ⟨#[]⟩]))])), (4, AV.v false (di (s.1.length : Nat)), none)]) (fun s => l = s.1 ++ s.2) (fun s => s.2.length) ([], l) (by simp) rfl ?_
    rintro ⟨pre, rest⟩ h1
    simp only at h1
    subst h1
    simp only [List.length_append, List.length_cons] at h
    rcases rest with _ | ⟨⟨y_Ty, y_N, y_S⟩, rest⟩
    · unfold pl258_0
      repeat' (first
        | with_reducible (first | refine wp_seq ?_ | refine wp_blk ?_ | refine wp_skip ?_ | refine wp_exit ?_ | refine wp_ret ?_ | refine seqQ_norm ?_ | refine seqQ_ret ?_ | refine seqQ_exit ?_ | refine blkQ_norm ?_ | refine blkQ_ret ?_ | refine blkQ_exit ?_ | refine loopQ_norm ?_ | refine loopQ_exit ?_ | refine loopQ_ret ?_ | refine endQ_ret ?_ | refine endQ_norm ?_ | refine endE_ret ?_ | refine endE_norm ?_ | refine endI_ret ?_ | refine endI_norm ?_)
        | (with_reducible refine wp_regK fun K hK => ?_
           simp
           repeat' (with_reducible first | refine hK _ ?_ | (refine psel ?_ ?_ <;> (intro hc; (try rw [Decidable.not_not] at hc); first | (exfalso; omega) | (try simp [hc]))))
           all_goals (clear hK; clear K))
        | (with_reducible refine wp_condE ?_
           refine ⟨_, rfl, ?_, ?_⟩ <;> (intro hc; (try simp at hc); (all_goals first | (exfalso; omega) | skip))))
      all_goals simp [pf258]
    · unfold pl258_0
      simp only [List.length_cons] at h
      have hw : IntKind.wrap .i64 ((pre.length : Int) + 1) = (pre.length : Int) + 1 := wrap_i64 (by omega) (by omega)
      have hd := hs ⟨y_Ty, y_N, y_S⟩ (by simp)
      simp only [XVal.sm, and_assoc] at hd
      have hsm_y_S := hd
      repeat' (first
        | with_reducible (first | refine wp_seq ?_ | refine wp_blk ?_ | refine wp_skip ?_ | refine wp_exit ?_ | refine wp_ret ?_ | refine seqQ_norm ?_ | refine seqQ_ret ?_ | refine seqQ_exit ?_ | refine blkQ_norm ?_ | refine blkQ_ret ?_ | refine blkQ_exit ?_ | refine loopQ_norm ?_ | refine loopQ_exit ?_ | refine loopQ_ret ?_ | refine endQ_ret ?_ | refine endQ_norm ?_ | refine endE_ret ?_ | refine endE_norm ?_ | refine endI_ret ?_ | refine endI_norm ?_)
        | (with_reducible refine wp_regK fun K hK => ?_
           simp[List.replicate_succ, hw, hsm_y_S]
           repeat' (with_reducible first | refine hK _ ?_ | (refine psel ?_ ?_ <;> (intro hc; (try rw [Decidable.not_not] at hc); first | (exfalso; omega) | (try simp [hc, List.replicate_succ, hw, hsm_y_S]))))
           all_goals (clear hK; clear K))
        | (with_reducible refine wp_condE ?_
           refine ⟨_, rfl, ?_, ?_⟩ <;> (intro hc; (try simp at hc); (all_goals first | (exfalso; omega) | skip))))
      all_goals exact ⟨(pre ++ [⟨y_Ty, y_N, y_S⟩], rest), by simp, by simp, by simp⟩

@[simp] theorem t165 (x_Ty : Int) (x_N : Int) (x_S : ByteArray)  : Gw TT 165 [.st [.ro false (di x_Ty), .ro false (di x_N), .ro false (.str x_S)], .st [.ro false (di x_Ty), .ro false (di x_N), .ro false (.str x_S)]] = some (vb true, []) := by
  refine Gw_of (F := pf165) rfl rfl ?_
  show Wp _ pb165 _ _
  unfold pb165
  repeat' (first
    | with_reducible (first | refine wp_seq ?_ | refine wp_blk ?_ | refine wp_skip ?_ | refine wp_exit ?_ | refine wp_ret ?_ | refine seqQ_norm ?_ | refine seqQ_ret ?_ | refine seqQ_exit ?_ | refine blkQ_norm ?_ | refine blkQ_ret ?_ | refine blkQ_exit ?_ | refine loopQ_norm ?_ | refine loopQ_exit ?_ | refine loopQ_ret ?_ | refine endQ_ret ?_ | refine endQ_norm ?_ | refine endE_ret ?_ | refine endE_norm ?_ | refine endI_ret ?_ | refine endI_norm ?_)
    | (with_reducible refine wp_regK fun K hK => ?_
       simp
       repeat' (with_reducible first | refine hK _ ?_ | (refine psel ?_ ?_ <;> (intro hc; (try rw [Decidable.not_not] at hc); first | (exfalso; omega) | (try simp [hc]))))
       all_goals (clear hK; clear K))
    | (with_reducible refine wp_condE ?_
       refine ⟨_, rfl, ?_, ?_⟩ <;> (intro hc; (try simp at hc); (all_goals first | (exfalso; omega) | skip))))
  all_goals simp [pf165]

@[simp] theorem t166 (k0 k1 : Bool) (l : List XVal) (h : l.length ≤ 1048576) (hs : XVal.sms l) : Gw TT 166 [.one (.ro k0 (.sl 3 (l.map XVal.e))), .one (.ro k1 (.sl 3 (l.map XVal.e)))] = some (vb true, []) := by
  refine Gw_of (F := pf166) rfl rfl ?_
  show Wp _ pb166 _ _
  unfold pb166
  repeat' (first
    | with_reducible (first | refine wp_seq ?_ | refine wp_blk ?_ | refine wp_skip ?_ | refine wp_exit ?_ | refine wp_ret ?_ | refine seqQ_norm ?_ | refine seqQ_ret ?_ | refine seqQ_exit ?_ | refine blkQ_norm ?_ | refine blkQ_ret ?_ | refine blkQ_exit ?_ | refine loopQ_norm ?_ | refine loopQ_exit ?_ | refine loopQ_ret ?_ | refine endQ_ret ?_ | refine endQ_norm ?_ | refine endE_ret ?_ | refine endE_norm ?_ | refine endI_ret ?_ | refine endI_norm ?_)
    | (with_reducible refine wp_regK fun K hK => ?_
       simp
       repeat' (with_reducible first | refine hK _ ?_ | (refine psel ?_ ?_ <;> (intro hc; (try rw [Decidable.not_not] at hc); first | (exfalso; omega) | (try simp [hc]))))
       all_goals (clear hK; clear K))
    | (with_reducible refine wp_condE ?_
       refine ⟨_, rfl, ?_, ?_⟩ <;> (intro hc; (try simp at hc); (all_goals first | (exfalso; omega) | skip))))
  · refine wp_loopI (σ := List XVal × List XVal) (fun s => [(0, AV.v k0 (D.sl 3 (List.map XVal.e l)), none), (1, AV.v k1 (D.sl 3 (List.map XVal.e l)), none), (5, AV.v false (di (s.1.length : Nat)), none)]) (fun s => l = s.1 ++ s.2) (fun s => s.2.length) ([], l) (by simp) rfl ?_
    rintro ⟨pre, rest⟩ h1
    simp only at h1
    subst h1
    simp only [List.length_append, List.length_cons] at h
    rcases rest with _ | ⟨⟨y_Ty, y_N, y_S⟩, rest⟩
    · unfold pl166_0
      repeat' (first
        | with_reducible (first | refine wp_seq ?_ | refine wp_blk ?_ | refine wp_skip ?_ | refine wp_exit ?_ | refine wp_ret ?_ | refine seqQ_norm ?_ | refine seqQ_ret ?_ | refine seqQ_exit ?_ | refine blkQ_norm ?_ | refine blkQ_ret ?_ | refine blkQ_exit ?_ | refine loopQ_norm ?_ | refine loopQ_exit ?_ | refine loopQ_ret ?_ | refine endQ_ret ?_ | refine endQ_norm ?_ | refine endE_ret ?_ | refine endE_norm ?_ | refine endI_ret ?_ | refine endI_norm ?_)
        | (with_reducible refine wp_regK fun K hK => ?_
           simp
           repeat' (with_reducible first | refine hK _ ?_ | (refine psel ?_ ?_ <;> (intro hc; (try rw [Decidable.not_not] at hc); first | (exfalso; omega) | (try simp [hc]))))
           all_goals (clear hK; clear K))
        | (with_reducible refine wp_condE ?_
           refine ⟨_, rfl, ?_, ?_⟩ <;> (intro hc; (try simp at hc); (all_goals first | (exfalso; omega) | skip))))
      all_goals simp [pf166]
    · unfold pl166_0
      simp only [List.length_cons] at h
      have hw : IntKind.wrap .i64 ((pre.length : Int) + 1) = (pre.length : Int) + 1 := wrap_i64 (by omega) (by omega)
      have hd := hs ⟨y_Ty, y_N, y_S⟩ (by simp)
      simp only [XVal.sm, and_assoc] at hd
      have hsm_y_S := hd
      repeat' (first
        | with_reducible (first | refine wp_seq ?_ | refine wp_blk ?_ | refine wp_skip ?_ | refine wp_exit ?_ | refine wp_ret ?_ | refine seqQ_norm ?_ | refine seqQ_ret ?_ | refine seqQ_exit ?_ | refine blkQ_norm ?_ | refine blkQ_ret ?_ | refine blkQ_exit ?_ | refine loopQ_norm ?_ | refine loopQ_exit ?_ | refine loopQ_ret ?_ | refine endQ_ret ?_ | refine endQ_norm ?_ | refine endE_ret ?_ | refine endE_norm ?_ | refine endI_ret ?_ | refine endI_norm ?_)
        | (with_reducible refine wp_regK fun K hK => ?_
           simp[hw, hsm_y_S]
           repeat' (with_reducible first | refine hK _ ?_ | (refine psel ?_ ?_ <;> (intro hc; (try rw [Decidable.not_not] at hc); first | (exfalso; omega) | (try simp [hc, hw, hsm_y_S]))))
           all_goals (clear hK; clear K))
        | (with_reducible refine wp_condE ?_
           refine ⟨_, rfl, ?_, ?_⟩ <;> (intro hc; (try simp at hc); (all_goals first | (exfalso; omega) | skip))))
      all_goals exact ⟨(pre ++ [⟨y_Ty, y_N, y_S⟩], rest), by simp, by simp, by simp⟩

@[simp] theorem t159 (k0 k1 : Bool) (x_Id : Int) (x_L : List XVal) (hok_x_L : x_L.length ≤ 1048576) (hoks_x_L : XVal.sms x_L) : Gw TT 159 [.st [.ro false (di x_Id), .ro k0 (.sl 3 (x_L.map XVal.e))], .st [.ro false (di x_Id), .ro k1 (.sl 3 (x_L.map XVal.e))]] = some (vb true, []) := by
  refine Gw_of (F := pf159) rfl rfl ?_
  show Wp _ pb159 _ _
  unfold pb159
  repeat' (first
    | with_reducible (first | refine wp_seq ?_ | refine wp_blk ?_ | refine wp_skip ?_ | refine wp_exit ?_ | refine wp_ret ?_ | refine seqQ_norm ?_ | refine seqQ_ret ?_ | refine seqQ_exit ?_ | refine blkQ_norm ?_ | refine blkQ_ret ?_ | refine blkQ_exit ?_ | refine loopQ_norm ?_ | refine loopQ_exit ?_ | refine loopQ_ret ?_ | refine endQ_ret ?_ | refine endQ_norm ?_ | refine endE_ret ?_ | refine endE_norm ?_ | refine endI_ret ?_ | refine endI_norm ?_)
    | (with_reducible refine wp_regK fun K hK => ?_
       simp[hok_x_L, hoks_x_L]
       repeat' (with_reducible first | refine hK _ ?_ | (refine psel ?_ ?_ <;> (intro hc; (try rw [Decidable.not_not] at hc); first | (exfalso; omega) | (try simp [hc, hok_x_L, hoks_x_L]))))
       all_goals (clear hK; clear K))
    | (with_reducible refine wp_condE ?_
       refine ⟨_, rfl, ?_, ?_⟩ <;> (intro hc; (try simp at hc); (all_goals first | (exfalso; omega) | skip))))
  all_goals simp [pf159]

@[simp] theorem t160 (k0 k1 : Bool) (l : List XRow) (h : l.length ≤ 1048576) (hs : XRow.sms l) : Gw TT 160 [.one (.ro k0 (.sl 2 (l.map XRow.e))), .one (.ro k1 (.sl 2 (l.map XRow.e)))] = some (vb true, []) := by
  refine Gw_of (F := pf160) rfl rfl ?_
  show Wp _ pb160 _ _
  unfold pb160
  repeat' (first
    | with_reducible (first | refine wp_seq ?_ | refine wp_blk ?_ | refine wp_skip ?_ | refine wp_exit ?_ | refine wp_ret ?_ | refine seqQ_norm ?_ | refine seqQ_ret ?_ | refine seqQ_exit ?_ | refine blkQ_norm ?_ | refine blkQ_ret ?_ | refine blkQ_exit ?_ | refine loopQ_norm ?_ | refine loopQ_exit ?_ | refine loopQ_ret ?_ | refine endQ_ret ?_ | refine endQ_norm ?_ | refine endE_ret ?_ | refine endE_norm ?_ | refine endI_ret ?_ | refine endI_norm ?_)
    | (with_reducible refine wp_regK fun K hK => ?_
       simp
       repeat' (with_reducible first | refine hK _ ?_ | (refine psel ?_ ?_ <;> (intro hc; (try rw [Decidable.not_not] at hc); first | (exfalso; omega) | (try simp [hc]))))
       all_goals (clear hK; clear K))
    | (with_reducible refine wp_condE ?_
       refine ⟨_, rfl, ?_, ?_⟩ <;> (intro hc; (try simp at hc); (all_goals first | (exfalso; omega) | skip))))
  · refine wp_loopI (σ := List XRow × List XRow) (fun s => [(0, AV.v k0 (D.sl 2 (List.map XRow.e l)), none), (1, AV.v k1 (D.sl 2 (List.map XRow.e l)), none), (5, AV.v false (di (s.1.length : Nat)), none)]) (fun s => l = s.1 ++ s.2) (fun s => s.2.length) ([], l) (by simp) rfl ?_
    rintro ⟨pre, rest⟩ h1
    simp only at h1
    subst h1
    simp only [List.length_append, List.length_cons] at h
    rcases rest with _ | ⟨⟨y_Id, y_L⟩, rest⟩
    · unfold pl160_0
      repeat' (first
        | with_reducible (first | refine wp_seq ?_ | refine wp_blk ?_ | refine wp_skip ?_ | refine wp_exit ?_ | refine wp_ret ?_ | refine seqQ_norm ?_ | refine seqQ_ret ?_ | refine seqQ_exit ?_ | refine blkQ_norm ?_ | refine blkQ_ret ?_ | refine blkQ_exit ?_ | refine loopQ_norm ?_ | refine loopQ_exit ?_ | refine loopQ_ret ?_ | refine endQ_ret ?_ | refine endQ_norm ?_ | refine endE_ret ?_ | refine endE_norm ?_ | refine endI_ret ?_ | refine endI_norm ?_)
        | (with_reducible refine wp_regK fun K hK => ?_
           simp
           repeat' (with_reducible first | refine hK _ ?_ | (refine psel ?_ ?_ <;> (intro hc; (try rw [Decidable.not_not] at hc); first | (exfalso; omega) | (try simp [hc]))))
           all_goals (clear hK; clear K))
        | (with_reducible refine wp_condE ?_
           refine ⟨_, rfl, ?_, ?_⟩ <;> (intro hc; (try simp at hc); (all_goals first | (exfalso; omega) | skip))))
      all_goals simp [pf160]
    · unfold pl160_0
      simp only [List.length_cons] at h
      have hw : IntKind.wrap .i64 ((pre.length : Int) + 1) = (pre.length : Int) + 1 := wrap_i64 (by omega) (by omega)
      have hd := hs ⟨y_Id, y_L⟩ (by simp)
      simp only [XRow.sm, and_assoc] at hd
      obtain ⟨hsm_y_L, hsms_y_L⟩ := hd
      repeat' (first
        | with_reducible (first | refine wp_seq ?_ | refine wp_blk ?_ | refine wp_skip ?_ | refine wp_exit ?_ | refine wp_ret ?_ | refine seqQ_norm ?_ | refine seqQ_ret ?_ | refine seqQ_exit ?_ | refine blkQ_norm ?_ | refine blkQ_ret ?_ | refine blkQ_exit ?_ | refine loopQ_norm ?_ | refine loopQ_exit ?_ | refine loopQ_ret ?_ | refine endQ_ret ?_ | refine endQ_norm ?_ | refine endE_ret ?_ | refine endE_norm ?_ | refine endI_ret ?_ | refine endI_norm ?_)
        | (with_reducible refine wp_regK fun K hK => ?_
           simp[hw, hsm_y_L, hsms_y_L]
           repeat' (with_reducible first | refine hK _ ?_ | (refine psel ?_ ?_ <;> (intro hc; (try rw [Decidable.not_not] at hc); first | (exfalso; omega) | (try simp [hc, hw, hsm_y_L, hsms_y_L]))))
           all_goals (clear hK; clear K))
        | (with_reducible refine wp_condE ?_
           refine ⟨_, rfl, ?_, ?_⟩ <;> (intro hc; (try simp at hc); (all_goals first | (exfalso; omega) | skip))))
      all_goals exact ⟨(pre ++ [⟨y_Id, y_L⟩], rest), by simp, by simp, by simp⟩

@[simp] theorem t253 (k0 : Bool) (x_Ins : Int) (x_L : List XVal) (hsm_x_L : x_L.length ≤ 1048576) (hsms_x_L : XVal.sms x_L) : Gw TT 253 [.st [.ro false (di x_Ins), .ro k0 (.sl 3 (x_L.map XVal.e))]] = some (.st [.ro false (di x_Ins), .own (.sl 3 (x_L.map XVal.e))], []) := by
  refine Gw_of (F := pf253) rfl rfl ?_
  show Wp _ pb253 _ _
  unfold pb253
  repeat' (first
    | with_reducible (first | refine wp_seq ?_ | refine wp_blk ?_ | refine wp_skip ?_ | refine wp_exit ?_ | refine wp_ret ?_ | refine seqQ_norm ?_ | refine seqQ_ret ?_ | refine seqQ_exit ?_ | refine blkQ_norm ?_ | refine blkQ_ret ?_ | refine blkQ_exit ?_ | refine loopQ_norm ?_ | refine loopQ_exit ?_ | refine loopQ_ret ?_ | refine endQ_ret ?_ | refine endQ_norm ?_ | refine endE_ret ?_ | refine endE_norm ?_ | refine endI_ret ?_ | refine endI_norm ?_)
    | (with_reducible refine wp_regK fun K hK => ?_
       simp[hsm_x_L, hsms_x_L]
       repeat' (with_reducible first | refine hK _ ?_ | (refine psel ?_ ?_ <;> (intro hc; (try rw [Decidable.not_not] at hc); first | (exfalso; omega) | (try simp [hc, hsm_x_L, hsms_x_L]))))
       all_goals (clear hK; clear K))
    | (with_reducible refine wp_condE ?_
       refine ⟨_, rfl, ?_, ?_⟩ <;> (intro hc; (try simp at hc); (all_goals first | (exfalso; omega) | skip))))
  all_goals simp [pf253]

@[simp] theorem t254 (k0 : Bool) (l : List XSlot) (h : l.length ≤ 1048576) (hs : XSlot.sms l) : Gw TT 254 [.one (.ro k0 (.sl 2 (l.map XSlot.e)))] = some (.one (.own (.sl 2 (l.map XSlot.e))), []) := by
  refine Gw_of (F := pf254) rfl rfl ?_
  show Wp _ pb254 _ _
  unfold pb254
  repeat' (first
    | with_reducible (first | refine wp_seq ?_ | refine wp_blk ?_ | refine wp_skip ?_ | refine wp_exit ?_ | refine wp_ret ?_ | refine seqQ_norm ?_ | refine seqQ_ret ?_ | refine seqQ_exit ?_ | refine blkQ_norm ?_ | refine blkQ_ret ?_ | refine blkQ_exit ?_ | refine loopQ_norm ?_ | refine loopQ_exit ?_ | refine loopQ_ret ?_ | refine endQ_ret ?_ | refine endQ_norm ?_ | refine endE_ret ?_ | refine endE_norm ?_ | refine endI_ret ?_ | refine endI_norm ?_)
    | (with_reducible refine wp_regK fun K hK => ?_
       simp
       repeat' (with_reducible first | refine hK _ ?_ | (refine psel ?_ ?_ <;> (intro hc; (try rw [Decidable.not_not] at hc); first | (exfalso; omega) | (try simp [hc]))))
       all_goals (clear hK; clear K))
    | (with_reducible refine wp_condE ?_
       refine ⟨_, rfl, ?_, ?_⟩ <;> (intro hc; (try simp at hc); (all_goals first | (exfalso; omega) | skip))))
  · refine wp_loopI (σ := List XSlot × List XSlot) (fun s => [(0, AV.v k0 (D.sl 2 (List.map XSlot.e l)), none), (3, AV.pl 3 0 [], some (Rt.vir [C.own (D.sl 2 (s.1.map XSlot.e ++ List.replicate s.2.length [.int .i64 0, .sl 3 []]))])), (4, AV.v false (di (s.1.length : Nat)), none)]) (fun s => l = s.1 ++ s.2) (fun s => s.2.length) ([], l) (by simp) rfl ?_
    rintro ⟨pre, rest⟩ h1
    simp only at h1
    subst h1
    simp only [List.length_append, List.length_cons] at h
    rcases rest with _ | ⟨⟨y_Ins, y_L⟩, rest⟩
    · unfold pl254_0
      repeat' (first
        | with_reducible (first | refine wp_seq ?_ | refine wp_blk ?_ | refine wp_skip ?_ | refine wp_exit ?_ | refine wp_ret ?_ | refine seqQ_norm ?_ | refine seqQ_ret ?_ | refine seqQ_exit ?_ | refine blkQ_norm ?_ | refine blkQ_ret ?_ | refine blkQ_exit ?_ | refine loopQ_norm ?_ | refine loopQ_exit ?_ | refine loopQ_ret ?_ | refine endQ_ret ?_ | refine endQ_norm ?_ | refine endE_ret ?_ | refine endE_norm ?_ | refine endI_ret ?_ | refine endI_norm ?_)
        | (with_reducible refine wp_regK fun K hK => ?_
           simp
           repeat' (with_reducible first | refine hK _ ?_ | (refine psel ?_ ?_ <;> (intro hc; (try rw [Decidable.not_not] at hc); first | (exfalso; omega) | (try simp [hc]))))
           all_goals (clear hK; clear K))
        | (with_reducible refine wp_condE ?_
           refine ⟨_, rfl, ?_, ?_⟩ <;> (intro hc; (try simp at hc); (all_goals first | (exfalso; omega) | skip))))
      all_goals simp [pf254]
    · unfold pl254_0
      simp only [List.length_cons] at h
      have hw : IntKind.wrap .i64 ((pre.length : Int) + 1) = (pre.length : Int) + 1 := wrap_i64 (by omega) (by omega)
      have hd := hs ⟨y_Ins, y_L⟩ (by simp)
      simp only [XSlot.sm, and_assoc] at hd
      obtain ⟨hsm_y_L, hsms_y_L⟩ := hd
      repeat' (first
        | with_reducible (first | refine wp_seq ?_ | refine wp_blk ?_ | refine wp_skip ?_ | refine wp_exit ?_ | refine wp_ret ?_ | refine seqQ_norm ?_ | refine seqQ_ret ?_ | refine seqQ_exit ?_ | refine blkQ_norm ?_ | refine blkQ_ret ?_ | refine blkQ_exit ?_ | refine loopQ_norm ?_ | refine loopQ_exit ?_ | refine loopQ_ret ?_ | refine endQ_ret ?_ | refine endQ_norm ?_ | refine endE_ret ?_ | refine endE_norm ?_ | refine endI_ret ?_ | refine endI_norm ?_)
        | (with_reducible refine wp_regK fun K hK => ?_
           simp[List.replicate_succ, hw, hsm_y_L, hsms_y_L]
           repeat' (with_reducible first | refine hK _ ?_ | (refine psel ?_ ?_ <;> (intro hc; (try rw [Decidable.not_not] at hc); first | (exfalso; omega) | (try simp [hc, List.replicate_succ, hw, hsm_y_L, hsms_y_L]))))
           all_goals (clear hK; clear K))
        | (with_reducible refine wp_condE ?_
           refine ⟨_, rfl, ?_, ?_⟩ <;> (intro hc; (try simp at hc); (all_goals first | (exfalso; omega) | skip))))
      all_goals exact ⟨(pre ++ [⟨y_Ins, y_L⟩], rest), by simp, by simp, by simp⟩

@[simp] theorem t161 (k0 k1 : Bool) (x_Ins : Int) (x_L : List XVal) (hok_x_L : x_L.length ≤ 1048576) (hoks_x_L : XVal.sms x_L) : Gw TT 161 [.st [.ro false (di x_Ins), .ro k0 (.sl 3 (x_L.map XVal.e))], .st [.ro false (di x_Ins), .ro k1 (.sl 3 (x_L.map XVal.e))]] = some (vb true, []) := by
  refine Gw_of (F := pf161) rfl rfl ?_
  show Wp _ pb161 _ _
  unfold pb161
  repeat' (first
    | with_reducible (first | refine wp_seq ?_ | refine wp_blk ?_ | refine wp_skip ?_ | refine wp_exit ?_ | refine wp_ret ?_ | refine seqQ_norm ?_ | refine seqQ_ret ?_ | refine seqQ_exit ?_ | refine blkQ_norm ?_ | refine blkQ_ret ?_ | refine blkQ_exit ?_ | refine loopQ_norm ?_ | refine loopQ_exit ?_ | refine loopQ_ret ?_ | refine endQ_ret ?_ | refine endQ_norm ?_ | refine endE_ret ?_ | refine endE_norm ?_ | refine endI_ret ?_ | refine endI_norm ?_)
    | (with_reducible refine wp_regK fun K hK => ?_
       simp[hok_x_L, hoks_x_L]
       repeat' (with_reducible first | refine hK _ ?_ | (refine psel ?_ ?_ <;> (intro hc; (try rw [Decidable.not_not] at hc); first | (exfalso; omega) | (try simp [hc, hok_x_L, hoks_x_L]))))
       all_goals (clear hK; clear K))
    | (with_reducible refine wp_condE ?_
       refine ⟨_, rfl, ?_, ?_⟩ <;> (intro hc; (try simp at hc); (all_goals first | (exfalso; omega) | skip))))
  all_goals simp [pf161]

@[simp] theorem t162 (k0 k1 : Bool) (l : List XSlot) (h : l.length ≤ 1048576) (hs : XSlot.sms l) : Gw TT 162 [.one (.ro k0 (.sl 2 (l.map XSlot.e))), .one (.ro k1 (.sl 2 (l.map XSlot.e)))] = some (vb true, []) := by
  refine Gw_of (F := pf162) rfl rfl ?_
  show Wp _ pb162 _ _
  unfold pb162
  repeat' (first
    | with_reducible (first | refine wp_seq ?_ | refine wp_blk ?_ | refine wp_skip ?_ | refine wp_exit ?_ | refine wp_ret ?_ | refine seqQ_norm ?_ | refine seqQ_ret ?_ | refine seqQ_exit ?_ | refine blkQ_norm ?_ | refine blkQ_ret ?_ | refine blkQ_exit ?_ | refine loopQ_norm ?_ | refine loopQ_exit ?_ | refine loopQ_ret ?_ | refine endQ_ret ?_ | refine endQ_norm ?_ | refine endE_ret ?_ | refine endE_norm ?_ | refine endI_ret ?_ | refine endI_norm ?_)
    | (with_reducible refine wp_regK fun K hK => ?_
       simp
       repeat' (with_reducible first | refine hK _ ?_ | (refine psel ?_ ?_ <;> (intro hc; (try rw [Decidable.not_not] at hc); first | (exfalso; omega) | (try simp [hc]))))
       all_goals (clear hK; clear K))
    | (with_reducible refine wp_condE ?_
       refine ⟨_, rfl, ?_, ?_⟩ <;> (intro hc; (try simp at hc); (all_goals first | (exfalso; omega) | skip))))
  · refine wp_loopI (σ := List XSlot × List XSlot) (fun s => [(0, AV.v k0 (D.sl 2 (List.map XSlot.e l)), none), (1, AV.v k1 (D.sl 2 (List.map XSlot.e l)), none), (5, AV.v false (di (s.1.length : Nat)), none)]) (fun s => l = s.1 ++ s.2) (fun s => s.2.length) ([], l) (by simp) rfl ?_
    rintro ⟨pre, rest⟩ h1
    simp only at h1
    subst h1
    simp only [List.length_append, List.length_cons] at h
    rcases rest with _ | ⟨⟨y_Ins, y_L⟩, rest⟩
    · unfold pl162_0
      repeat' (first
        | with_reducible (first | refine wp_seq ?_ | refine wp_blk ?_ | refine wp_skip ?_ | refine wp_exit ?_ | refine wp_ret ?_ | refine seqQ_norm ?_ | refine seqQ_ret ?_ | refine seqQ_exit ?_ | refine blkQ_norm ?_ | refine blkQ_ret ?_ | refine blkQ_exit ?_ | refine loopQ_norm ?_ | refine loopQ_exit ?_ | refine loopQ_ret ?_ | refine endQ_ret ?_ | refine endQ_norm ?_ | refine endE_ret ?_ | refine endE_norm ?_ | refine endI_ret ?_ | refine endI_norm ?_)
        | (with_reducible refine wp_regK fun K hK => ?_
           simp
           repeat' (with_reducible first | refine hK _ ?_ | (refine psel ?_ ?_ <;> (intro hc; (try rw [Decidable.not_not] at hc); first | (exfalso; omega) | (try simp [hc]))))
           all_goals (clear hK; clear K))
        | (with_reducible refine wp_condE ?_
           refine ⟨_, rfl, ?_, ?_⟩ <;> (intro hc; (try simp at hc); (all_goals first | (exfalso; omega) | skip))))
      all_goals simp [pf162]
    · unfold pl162_0
      simp only [List.length_cons] at h
      have hw : IntKind.wrap .i64 ((pre.length : Int) + 1) = (pre.length : Int) + 1 := wrap_i64 (by omega) (by omega)
      have hd := hs ⟨y_Ins, y_L⟩ (by simp)
      simp only [XSlot.sm, and_assoc] at hd
      obtain ⟨hsm_y_L, hsms_y_L⟩ := hd
      repeat' (first
        | with_reducible (first | refine wp_seq ?_ | refine wp_blk ?_ | refine wp_skip ?_ | refine wp_exit ?_ | refine wp_ret ?_ | refine seqQ_norm ?_ | refine seqQ_ret ?_ | refine seqQ_exit ?_ | refine blkQ_norm ?_ | refine blkQ_ret ?_ | refine blkQ_exit ?_ | refine loopQ_norm ?_ | refine loopQ_exit ?_ | refine loopQ_ret ?_ | refine endQ_ret ?_ | refine endQ_norm ?_ | refine endE_ret ?_ | refine endE_norm ?_ | refine endI_ret ?_ | refine endI_norm ?_)
        | (with_reducible refine wp_regK fun K hK => ?_
           simp[hw, hsm_y_L, hsms_y_L]
           repeat' (with_reducible first | refine hK _ ?_ | (refine psel ?_ ?_ <;> (intro hc; (try rw [Decidable.not_not] at hc); first | (exfalso; omega) | (try simp [hc, hw, hsm_y_L, hsms_y_L]))))
           all_goals (clear hK; clear K))
        | (with_reducible refine wp_condE ?_
           refine ⟨_, rfl, ?_, ?_⟩ <;> (intro hc; (try simp at hc); (all_goals first | (exfalso; omega) | skip))))
      all_goals exact ⟨(pre ++ [⟨y_Ins, y_L⟩], rest), by simp, by simp, by simp⟩

@[simp] theorem t237 (k0 : Bool) (x_Next : Int) (x_L : List XSlot) (hsm_x_L : x_L.length ≤ 1048576) (hsms_x_L : XSlot.sms x_L) : Gw TT 237 [.st [.ro false (di x_Next), .ro k0 (.sl 2 (x_L.map XSlot.e))]] = some (.st [.ro false (di x_Next), .own (.sl 2 (x_L.map XSlot.e))], []) := by
  refine Gw_of (F := pf237) rfl rfl ?_
  show Wp _ pb237 _ _
  unfold pb237
  repeat' (first
    | with_reducible (first | refine wp_seq ?_ | refine wp_blk ?_ | refine wp_skip ?_ | refine wp_exit ?_ | refine wp_ret ?_ | refine seqQ_norm ?_ | refine seqQ_ret ?_ | refine seqQ_exit ?_ | refine blkQ_norm ?_ | refine blkQ_ret ?_ | refine blkQ_exit ?_ | refine loopQ_norm ?_ | refine loopQ_exit ?_ | refine loopQ_ret ?_ | refine endQ_ret ?_ | refine endQ_norm ?_ | refine endE_ret ?_ | refine endE_norm ?_ | refine endI_ret ?_ | refine endI_norm ?_)
    | (with_reducible refine wp_regK fun K hK => ?_
       simp[hsm_x_L, hsms_x_L]
       repeat' (with_reducible first | refine hK _ ?_ | (refine psel ?_ ?_ <;> (intro hc; (try rw [Decidable.not_not] at hc); first | (exfalso; omega) | (try simp [hc, hsm_x_L, hsms_x_L]))))
       all_goals (clear hK; clear K))
    | (with_reducible refine wp_condE ?_
       refine ⟨_, rfl, ?_, ?_⟩ <;> (intro hc; (try simp at hc); (all_goals first | (exfalso; omega) | skip))))
  all_goals simp [pf237]

@[simp] theorem t145 (k0 k1 : Bool) (x_Next : Int) (x_L : List XSlot) (hok_x_L : x_L.length ≤ 1048576) (hoks_x_L : XSlot.sms x_L) : Gw TT 145 [.st [.ro false (di x_Next), .ro k0 (.sl 2 (x_L.map XSlot.e))], .st [.ro false (di x_Next), .ro k1 (.sl 2 (x_L.map XSlot.e))]] = some (vb true, []) := by
  refine Gw_of (F := pf145) rfl rfl ?_
  show Wp _ pb145 _ _
  unfold pb145
  repeat' (first
    | with_reducible (first | refine wp_seq ?_ | refine wp_blk ?_ | refine wp_skip ?_ | refine wp_exit ?_ | refine wp_ret ?_ | refine seqQ_norm ?_ | refine seqQ_ret ?_ | refine seqQ_exit ?_ | refine blkQ_norm ?_ | refine blkQ_ret ?_ | refine blkQ_exit ?_ | refine loopQ_norm ?_ | refine loopQ_exit ?_ | refine loopQ_ret ?_ | refine endQ_ret ?_ | refine endQ_norm ?_ | refine endE_ret ?_ | refine endE_norm ?_ | refine endI_ret ?_ | refine endI_norm ?_)
    | (with_reducible refine wp_regK fun K hK => ?_
       simp[hok_x_L, hoks_x_L]
       repeat' (with_reducible first | refine hK _ ?_ | (refine psel ?_ ?_ <;> (intro hc; (try rw [Decidable.not_not] at hc); first | (exfalso; omega) | (try simp [hc, hok_x_L, hoks_x_L]))))
       all_goals (clear hK; clear K))
    | (with_reducible refine wp_condE ?_
       refine ⟨_, rfl, ?_, ?_⟩ <;> (intro hc; (try simp at hc); (all_goals first | (exfalso; omega) | skip))))
  all_goals simp [pf145]

theorem t231 (x_Ty : Int) (x_N : Int) (x_S : ByteArray) (left : Int) (h0 : 0 ≤ left) (h1 : left ≤ 1048576) (hok_x_S : x_S.size ≤ 9223372036854775807) :
    ∃ n, Gw TT 231 [.st [.ro false (di x_Ty), .ro false (di x_N), .ro false (.str x_S)], vi left] = some (vi n, []) ∧ -1 ≤ n ∧ n ≤ left ∧ (0 ≤ n → x_S.size ≤ 1048576) := by
  refine Gw_ofI (F := pf231) rfl rfl ?_
  show Wp _ pb231 _ _
  unfold pb231
  have g1 : IntKind.wrap .i64 (left - (x_S.size : Int)) = left - (x_S.size : Int) := wrap_i64 (by omega) (by omega)
  repeat' (first
    | with_reducible (first | refine wp_seq ?_ | refine wp_blk ?_ | refine wp_skip ?_ | refine wp_exit ?_ | refine wp_ret ?_ | refine seqQ_norm ?_ | refine seqQ_ret ?_ | refine seqQ_exit ?_ | refine blkQ_norm ?_ | refine blkQ_ret ?_ | refine blkQ_exit ?_ | refine loopQ_norm ?_ | refine loopQ_exit ?_ | refine loopQ_ret ?_ | refine endQ_ret ?_ | refine endQ_norm ?_ | refine endE_ret ?_ | refine endE_norm ?_ | refine endI_ret ?_ | refine endI_norm ?_)
    | (with_reducible refine wp_regK fun K hK => ?_
       simp[g1]
       repeat' (with_reducible first | refine hK _ ?_ | (refine psel ?_ ?_ <;> (intro hc; (try rw [Decidable.not_not] at hc); first | (exfalso; omega) | (try simp [hc, g1]))))
       all_goals (clear hK; clear K))
    | (with_reducible refine wp_condE ?_
       refine ⟨_, rfl, ?_, ?_⟩ <;> (intro hc; (try simp at hc); (all_goals first | (exfalso; omega) | skip))))
  · exact ⟨-1, by simp [pf231], by omega, by omega, fun h => absurd h (by omega)⟩
  · exact ⟨left - (x_S.size : Int), by simp [pf231], by omega, by omega, fun _ => (by omega)⟩

theorem t232 (k0 : Bool) (l : List XVal) (left : Int) (h0 : 0 ≤ left) (h1 : left ≤ 1048576) (hl : l.length ≤ 9223372036854775807) (hok : XVal.oks l) :
    ∃ n, Gw TT 232 [.one (.ro k0 (.sl 3 (l.map XVal.e))), vi left] = some (vi n, []) ∧ -1 ≤ n ∧ n ≤ left ∧ (0 ≤ n → l.length ≤ 1048576 ∧ XVal.sms l) := by
  refine Gw_ofI (F := pf232) rfl rfl ?_
  show Wp _ pb232 _ _
  unfold pb232
  have g : IntKind.wrap .i64 (left - (l.length : Int)) = left - (l.length : Int) := wrap_i64 (by omega) (by omega)
  repeat' (first
    | with_reducible (first | refine wp_seq ?_ | refine wp_blk ?_ | refine wp_skip ?_ | refine wp_exit ?_ | refine wp_ret ?_ | refine seqQ_norm ?_ | refine seqQ_ret ?_ | refine seqQ_exit ?_ | refine blkQ_norm ?_ | refine blkQ_ret ?_ | refine blkQ_exit ?_ | refine loopQ_norm ?_ | refine loopQ_exit ?_ | refine loopQ_ret ?_ | refine endQ_ret ?_ | refine endQ_norm ?_ | refine endE_ret ?_ | refine endE_norm ?_ | refine endI_ret ?_ | refine endI_norm ?_)
    | (with_reducible refine wp_regK fun K hK => ?_
       simp[g]
       repeat' (with_reducible first | refine hK _ ?_ | (refine psel ?_ ?_ <;> (intro hc; (try rw [Decidable.not_not] at hc); first | (exfalso; omega) | (try simp [hc, g]))))
       all_goals (clear hK; clear K))
    | (with_reducible refine wp_condE ?_
       refine ⟨_, rfl, ?_, ?_⟩ <;> (intro hc; (try simp at hc); (all_goals first | (exfalso; omega) | skip))))
  · exact ⟨-1, by simp [pf232], by omega, by omega, fun h => absurd h (by omega)⟩
  · refine wp_loopI (σ := List XVal × List XVal × Int) (fun s => [(0, AV.v k0 (D.sl 3 (List.map XVal.e l)), none), (1, AV.v false (di s.2.2), none), (5, AV.v false (di (s.1.length : Nat)), none)]) (fun s => l = s.1 ++ s.2.1 ∧ 0 ≤ s.2.2 ∧ s.2.2 ≤ left - (l.length : Int) ∧ XVal.sms s.1) (fun s => s.2.1.length) ([], l, left - (l.length : Int)) (by simp) ⟨rfl, by simp only; omega, by simp only; omega, fun y hy => by simp at hy⟩ ?_
    rintro ⟨pre, rest, lf⟩ ⟨h2, h3, h4, h5⟩
    simp only at h2 h3 h4 h5
    subst h2
    simp only [List.length_append, List.length_cons] at hl h4 g
    rcases rest with _ | ⟨⟨y_Ty, y_N, y_S⟩, rest⟩
    · unfold pl232_0
      repeat' (first
        | with_reducible (first | refine wp_seq ?_ | refine wp_blk ?_ | refine wp_skip ?_ | refine wp_exit ?_ | refine wp_ret ?_ | refine seqQ_norm ?_ | refine seqQ_ret ?_ | refine seqQ_exit ?_ | refine blkQ_norm ?_ | refine blkQ_ret ?_ | refine blkQ_exit ?_ | refine loopQ_norm ?_ | refine loopQ_exit ?_ | refine loopQ_ret ?_ | refine endQ_ret ?_ | refine endQ_norm ?_ | refine endE_ret ?_ | refine endE_norm ?_ | refine endI_ret ?_ | refine endI_norm ?_)
        | (with_reducible refine wp_regK fun K hK => ?_
           simp
           repeat' (with_reducible first | refine hK _ ?_ | (refine psel ?_ ?_ <;> (intro hc; (try rw [Decidable.not_not] at hc); first | (exfalso; omega) | (try simp [hc]))))
           all_goals (clear hK; clear K))
        | (with_reducible refine wp_condE ?_
           refine ⟨_, rfl, ?_, ?_⟩ <;> (intro hc; (try simp at hc); (all_goals first | (exfalso; omega) | skip))))
      simp only [List.length_nil] at h4
      all_goals exact ⟨lf, by simp [pf232], by omega, by omega, fun _ => ⟨by simp; omega, by simpa using h5⟩⟩
    · unfold pl232_0
      simp only [List.length_cons] at hl h4
      have hw : IntKind.wrap .i64 ((pre.length : Int) + 1) = (pre.length : Int) + 1 := wrap_i64 (by omega) (by omega)
      have hd := hok ⟨y_Ty, y_N, y_S⟩ (by simp)
      simp only [XVal.ok, and_assoc] at hd
      obtain ⟨hlo_y_Ty, hhi_y_Ty, hlo_y_N, hhi_y_N, hok_y_S⟩ := hd
      obtain ⟨n1, g1, a1, b1, s1⟩ := t231 y_Ty y_N y_S lf (by omega) (by omega) hok_y_S
      repeat' (first
        | with_reducible (first | refine wp_seq ?_ | refine wp_blk ?_ | refine wp_skip ?_ | refine wp_exit ?_ | refine wp_ret ?_ | refine seqQ_norm ?_ | refine seqQ_ret ?_ | refine seqQ_exit ?_ | refine blkQ_norm ?_ | refine blkQ_ret ?_ | refine blkQ_exit ?_ | refine loopQ_norm ?_ | refine loopQ_exit ?_ | refine loopQ_ret ?_ | refine endQ_ret ?_ | refine endQ_norm ?_ | refine endE_ret ?_ | refine endE_norm ?_ | refine endI_ret ?_ | refine endI_norm ?_)
        | (with_reducible refine wp_regK fun K hK => ?_
           simp[g1, hw]
           repeat' (with_reducible first | refine hK _ ?_ | (refine psel ?_ ?_ <;> (intro hc; (try rw [Decidable.not_not] at hc); first | (exfalso; omega) | (try simp [hc, g1, hw]))))
           all_goals (clear hK; clear K))
        | (with_reducible refine wp_condE ?_
           refine ⟨_, rfl, ?_, ?_⟩ <;> (intro hc; (try simp at hc); (all_goals first | (exfalso; omega) | skip))))
      · exact ⟨-1, by simp [pf232], by omega, by omega, fun h => absurd h (by omega)⟩
      · exact ⟨(pre ++ [⟨y_Ty, y_N, y_S⟩], rest, n1), by simp, ⟨by simp, by simp only; omega, by simp only [List.length_append, List.length_cons]; omega, fun y hy => by
          rcases List.mem_append.1 hy with hy | hy
          · exact h5 y hy
          · rw [List.mem_singleton.1 hy]
            simp only [XVal.sm, and_assoc]
            exact s1 (by omega)⟩, by simp⟩

theorem t227 (k0 : Bool) (x_Ins : Int) (x_L : List XVal) (left : Int) (h0 : 0 ≤ left) (h1 : left ≤ 1048576) (hok_x_L : x_L.length ≤ 9223372036854775807) (hoks_x_L : XVal.oks x_L) :
    ∃ n, Gw TT 227 [.st [.ro false (di x_Ins), .ro k0 (.sl 3 (x_L.map XVal.e))], vi left] = some (vi n, []) ∧ -1 ≤ n ∧ n ≤ left ∧ (0 ≤ n → x_L.length ≤ 1048576 ∧ XVal.sms x_L) := by
  refine Gw_ofI (F := pf227) rfl rfl ?_
  show Wp _ pb227 _ _
  unfold pb227
  obtain ⟨n1, g1, a1, b1, s1⟩ := t232 k0 x_L left (by omega) (by omega) hok_x_L hoks_x_L
  repeat' (first
    | with_reducible (first | refine wp_seq ?_ | refine wp_blk ?_ | refine wp_skip ?_ | refine wp_exit ?_ | refine wp_ret ?_ | refine seqQ_norm ?_ | refine seqQ_ret ?_ | refine seqQ_exit ?_ | refine blkQ_norm ?_ | refine blkQ_ret ?_ | refine blkQ_exit ?_ | refine loopQ_norm ?_ | refine loopQ_exit ?_ | refine loopQ_ret ?_ | refine endQ_ret ?_ | refine endQ_norm ?_ | refine endE_ret ?_ | refine endE_norm ?_ | refine endI_ret ?_ | refine endI_norm ?_)
    | (with_reducible refine wp_regK fun K hK => ?_
       simp[g1]
       repeat' (with_reducible first | refine hK _ ?_ | (refine psel ?_ ?_ <;> (intro hc; (try rw [Decidable.not_not] at hc); first | (exfalso; omega) | (try simp [hc, g1]))))
       all_goals (clear hK; clear K))
    | (with_reducible refine wp_condE ?_
       refine ⟨_, rfl, ?_, ?_⟩ <;> (intro hc; (try simp at hc); (all_goals first | (exfalso; omega) | skip))))
  · exact ⟨-1, by simp [pf227], by omega, by omega, fun h => absurd h (by omega)⟩
  · exact ⟨n1, by simp [pf227], by omega, by omega, fun _ => ⟨(s1 (by omega)).1, (s1 (by omega)).2⟩⟩

theorem t228 (k0 : Bool) (l : List XSlot) (left : Int) (h0 : 0 ≤ left) (h1 : left ≤ 1048576) (hl : l.length ≤ 9223372036854775807) (hok : XSlot.oks l) :
    ∃ n, Gw TT 228 [.one (.ro k0 (.sl 2 (l.map XSlot.e))), vi left] = some (vi n, []) ∧ -1 ≤ n ∧ n ≤ left ∧ (0 ≤ n → l.length ≤ 1048576 ∧ XSlot.sms l) := by
  refine Gw_ofI (F := pf228) rfl rfl ?_
  show Wp _ pb228 _ _
  unfold pb228
  have g : IntKind.wrap .i64 (left - (l.length : Int)) = left - (l.length : Int) := wrap_i64 (by omega) (by omega)
  repeat' (first
    | with_reducible (first | refine wp_seq ?_ | refine wp_blk ?_ | refine wp_skip ?_ | refine wp_exit ?_ | refine wp_ret ?_ | refine seqQ_norm ?_ | refine seqQ_ret ?_ | refine seqQ_exit ?_ | refine blkQ_norm ?_ | refine blkQ_ret ?_ | refine blkQ_exit ?_ | refine loopQ_norm ?_ | refine loopQ_exit ?_ | refine loopQ_ret ?_ | refine endQ_ret ?_ | refine endQ_norm ?_ | refine endE_ret ?_ | refine endE_norm ?_ | refine endI_ret ?_ | refine endI_norm ?_)
    | (with_reducible refine wp_regK fun K hK => ?_
       simp[g]
       repeat' (with_reducible first | refine hK _ ?_ | (refine psel ?_ ?_ <;> (intro hc; (try rw [Decidable.not_not] at hc); first | (exfalso; omega) | (try simp [hc, g]))))
       all_goals (clear hK; clear K))
    | (with_reducible refine wp_condE ?_
       refine ⟨_, rfl, ?_, ?_⟩ <;> (intro hc; (try simp at hc); (all_goals first | (exfalso; omega) | skip))))
  · exact ⟨-1, by simp [pf228], by omega, by omega, fun h => absurd h (by omega)⟩
  · refine wp_loopI (σ := List XSlot × List XSlot × Int) (fun s => [(0, AV.v k0 (D.sl 2 (List.map XSlot.e l)), none), (1, AV.v false (di s.2.2), none), (5, AV.v false (di (s.1.length : Nat)), none)]) (fun s => l = s.1 ++ s.2.1 ∧ 0 ≤ s.2.2 ∧ s.2.2 ≤ left - (l.length : Int) ∧ XSlot.sms s.1) (fun s => s.2.1.length) ([], l, left - (l.length : Int)) (by simp) ⟨rfl, by simp only; omega, by simp only; omega, fun y hy => by simp at hy⟩ ?_
    rintro ⟨pre, rest, lf⟩ ⟨h2, h3, h4, h5⟩
    simp only at h2 h3 h4 h5
    subst h2
    simp only [List.length_append, List.length_cons] at hl h4 g
    rcases rest with _ | ⟨⟨y_Ins, y_L⟩, rest⟩
    · unfold pl228_0
      repeat' (first
        | with_reducible (first | refine wp_seq ?_ | refine wp_blk ?_ | refine wp_skip ?_ | refine wp_exit ?_ | refine wp_ret ?_ | refine seqQ_norm ?_ | refine seqQ_ret ?_ | refine seqQ_exit ?_ | refine blkQ_norm ?_ | refine blkQ_ret ?_ | refine blkQ_exit ?_ | refine loopQ_norm ?_ | refine loopQ_exit ?_ | refine loopQ_ret ?_ | refine endQ_ret ?_ | refine endQ_norm ?_ | refine endE_ret ?_ | refine endE_norm ?_ | refine endI_ret ?_ | refine endI_norm ?_)
        | (with_reducible refine wp_regK fun K hK => ?_
           simp
           repeat' (with_reducible first | refine hK _ ?_ | (refine psel ?_ ?_ <;> (intro hc; (try rw [Decidable.not_not] at hc); first | (exfalso; omega) | (try simp [hc]))))
           all_goals (clear hK; clear K))
        | (with_reducible refine wp_condE ?_
           refine ⟨_, rfl, ?_, ?_⟩ <;> (intro hc; (try simp at hc); (all_goals first | (exfalso; omega) | skip))))
      simp only [List.length_nil] at h4
      all_goals exact ⟨lf, by simp [pf228], by omega, by omega, fun _ => ⟨by simp; omega, by simpa using h5⟩⟩
    · unfold pl228_0
      simp only [List.length_cons] at hl h4
      have hw : IntKind.wrap .i64 ((pre.length : Int) + 1) = (pre.length : Int) + 1 := wrap_i64 (by omega) (by omega)
      have hd := hok ⟨y_Ins, y_L⟩ (by simp)
      simp only [XSlot.ok, and_assoc] at hd
      obtain ⟨hlo_y_Ins, hhi_y_Ins, hok_y_L, hoks_y_L⟩ := hd
      obtain ⟨n1, g1, a1, b1, s1⟩ := t227 k0 y_Ins y_L lf (by omega) (by omega) hok_y_L hoks_y_L
      repeat' (first
        | with_reducible (first | refine wp_seq ?_ | refine wp_blk ?_ | refine wp_skip ?_ | refine wp_exit ?_ | refine wp_ret ?_ | refine seqQ_norm ?_ | refine seqQ_ret ?_ | refine seqQ_exit ?_ | refine blkQ_norm ?_ | refine blkQ_ret ?_ | refine blkQ_exit ?_ | refine loopQ_norm ?_ | refine loopQ_exit ?_ | refine loopQ_ret ?_ | refine endQ_ret ?_ | refine endQ_norm ?_ | refine endE_ret ?_ | refine endE_norm ?_ | refine endI_ret ?_ | refine endI_norm ?_)
        | (with_reducible refine wp_regK fun K hK => ?_
           simp[g1, hw]
           repeat' (with_reducible first | refine hK _ ?_ | (refine psel ?_ ?_ <;> (intro hc; (try rw [Decidable.not_not] at hc); first | (exfalso; omega) | (try simp [hc, g1, hw]))))
           all_goals (clear hK; clear K))
        | (with_reducible refine wp_condE ?_
           refine ⟨_, rfl, ?_, ?_⟩ <;> (intro hc; (try simp at hc); (all_goals first | (exfalso; omega) | skip))))
      · exact ⟨-1, by simp [pf228], by omega, by omega, fun h => absurd h (by omega)⟩
      · exact ⟨(pre ++ [⟨y_Ins, y_L⟩], rest, n1), by simp, ⟨by simp, by simp only; omega, by simp only [List.length_append, List.length_cons]; omega, fun y hy => by
          rcases List.mem_append.1 hy with hy | hy
          · exact h5 y hy
          · rw [List.mem_singleton.1 hy]
            simp only [XSlot.sm, and_assoc]
            exact s1 (by omega)⟩, by simp⟩

theorem t213 (k0 : Bool) (x_Next : Int) (x_L : List XSlot) (left : Int) (h0 : 0 ≤ left) (h1 : left ≤ 1048576) (hok_x_L : x_L.length ≤ 9223372036854775807) (hoks_x_L : XSlot.oks x_L) :
    ∃ n, Gw TT 213 [.st [.ro false (di x_Next), .ro k0 (.sl 2 (x_L.map XSlot.e))], vi left] = some (vi n, []) ∧ -1 ≤ n ∧ n ≤ left ∧ (0 ≤ n → x_L.length ≤ 1048576 ∧ XSlot.sms x_L) := by
  refine Gw_ofI (F := pf213) rfl rfl ?_
  show Wp _ pb213 _ _
  unfold pb213
  obtain ⟨n1, g1, a1, b1, s1⟩ := t228 k0 x_L left (by omega) (by omega) hok_x_L hoks_x_L
  repeat' (first
    | with_reducible (first | refine wp_seq ?_ | refine wp_blk ?_ | refine wp_skip ?_ | refine wp_exit ?_ | refine wp_ret ?_ | refine seqQ_norm ?_ | refine seqQ_ret ?_ | refine seqQ_exit ?_ | refine blkQ_norm ?_ | refine blkQ_ret ?_ | refine blkQ_exit ?_ | refine loopQ_norm ?_ | refine loopQ_exit ?_ | refine loopQ_ret ?_ | refine endQ_ret ?_ | refine endQ_norm ?_ | refine endE_ret ?_ | refine endE_norm ?_ | refine endI_ret ?_ | refine endI_norm ?_)
    | (with_reducible refine wp_regK fun K hK => ?_
       simp[g1]
       repeat' (with_reducible first | refine hK _ ?_ | (refine psel ?_ ?_ <;> (intro hc; (try rw [Decidable.not_not] at hc); first | (exfalso; omega) | (try simp [hc, g1]))))
       all_goals (clear hK; clear K))
    | (with_reducible refine wp_condE ?_
       refine ⟨_, rfl, ?_, ?_⟩ <;> (intro hc; (try simp at hc); (all_goals first | (exfalso; omega) | skip))))
  · exact ⟨-1, by simp [pf213], by omega, by omega, fun h => absurd h (by omega)⟩
  · exact ⟨n1, by simp [pf213], by omega, by omega, fun _ => ⟨(s1 (by omega)).1, (s1 (by omega)).2⟩⟩

@[simp] theorem t377 (x a b : Int) : Gw TT 377 [vi x, vi a, vi b] = some (vb (decide (a ≤ x) && decide (x ≤ b)), []) := by
  refine Gw_of (F := pf377) rfl rfl ?_
  show Wp _ pb377 _ _
  unfold pb377
  repeat' (first
    | with_reducible (first | refine wp_seq ?_ | refine wp_blk ?_ | refine wp_skip ?_ | refine wp_exit ?_ | refine wp_ret ?_ | refine seqQ_norm ?_ | refine seqQ_ret ?_ | refine seqQ_exit ?_ | refine blkQ_norm ?_ | refine blkQ_ret ?_ | refine blkQ_exit ?_ | refine loopQ_norm ?_ | refine loopQ_exit ?_ | refine loopQ_ret ?_ | refine endQ_ret ?_ | refine endQ_norm ?_ | refine endE_ret ?_ | refine endE_norm ?_ | refine endI_ret ?_ | refine endI_norm ?_)
    | (with_reducible refine wp_regK fun K hK => ?_
       simp
       repeat' (with_reducible first | refine hK _ ?_ | (refine psel ?_ ?_ <;> (intro hc; (try rw [Decidable.not_not] at hc); first | (exfalso; omega) | (try simp [hc]))))
       all_goals (clear hK; clear K))
    | (with_reducible refine wp_condE ?_
       refine ⟨_, rfl, ?_, ?_⟩ <;> (intro hc; (try simp at hc); (all_goals first | (exfalso; omega) | skip))))
  all_goals first | (simp_all [pf377]; done) | (simp_all [pf377]; omega)

@[simp] theorem take_mid {α : Type} {n : Nat} (l r : List α) (h : n = l.length) : (l ++ r).take n = l := by subst h; simp

@[simp] theorem bytesStr_map (l : List Int) : bytesStr (l.map eb) = some (l.map fun n => UInt8.ofNat n.toNat) := by
  induction l with
  | nil => rfl
  | cons n l ih =>
    have : bytesStr (List.map eb (n :: l)) = match bytesStr (l.map eb) with
      | some bs => some (UInt8.ofNat n.toNat :: bs)
      | none => none := rfl
    rw [this, ih]; rfl

def digF (k : Nat) (out : ByteArray) : ByteArray :=
  if h : k = 0 then out else digF (k / 10) (⟨#[UInt8.ofNat (IntKind.wrap .u8 (48 + ((k : Int).tmod 10))).toNat]⟩ ++ out)
termination_by k
decreasing_by omega

def mtext (k : Int) : ByteArray := if k ≤ 0 then ⟨#[109, 48]⟩ else ⟨#[109]⟩ ++ digF k.toNat ⟨#[]⟩

@[simp] theorem ba_one (x : UInt8) : (ByteArray.mk #[x]).size = 1 := rfl

theorem digF_zero (out : ByteArray) : digF 0 out = out := by unfold digF; simp

theorem digF_succ (k : Nat) (out : ByteArray) (h : k ≠ 0) : digF k out = digF (k / 10) (⟨#[UInt8.ofNat (IntKind.wrap .u8 (48 + ((k : Int).tmod 10))).toNat]⟩ ++ out) := by
  rw [digF]; simp [h]

@[simp] theorem t196 (k : Int) (h : k ≤ 4611686018427387904) : Gw TT 196 [vi k] = some (.one (.ro false (.str (mtext k))), []) := by
  refine Gw_of (F := pf196) rfl rfl ?_
  show Wp _ pb196 _ _
  unfold pb196
  repeat' (first
    | with_reducible (first | refine wp_seq ?_ | refine wp_blk ?_ | refine wp_skip ?_ | refine wp_exit ?_ | refine wp_ret ?_ | refine seqQ_norm ?_ | refine seqQ_ret ?_ | refine seqQ_exit ?_ | refine blkQ_norm ?_ | refine blkQ_ret ?_ | refine blkQ_exit ?_ | refine loopQ_norm ?_ | refine loopQ_exit ?_ | refine loopQ_ret ?_ | refine endQ_ret ?_ | refine endQ_norm ?_ | refine endE_ret ?_ | refine endE_norm ?_ | refine endI_ret ?_ | refine endI_norm ?_)
    | (with_reducible refine wp_regK fun K hK => ?_
       simp
       repeat' (with_reducible first | refine hK _ ?_ | (refine psel ?_ ?_ <;> (intro hc; (try rw [Decidable.not_not] at hc); first | (exfalso; omega) | (try simp [hc]))))
       all_goals (clear hK; clear K))
    | (with_reducible refine wp_condE ?_
       refine ⟨_, rfl, ?_, ?_⟩ <;> (intro hc; (try simp at hc); (all_goals first | (exfalso; omega) | skip))))
  · simp [pf196, mtext, *]
  · refine wp_loopI (σ := Nat × ByteArray) (fun s => [(0, AV.v false (di ((s.1 : Nat) : Int)), none), (3, AV.v false (.str s.2), none)]) (fun s => digF s.1 s.2 = digF k.toNat ⟨#[]⟩ ∧ s.1 + s.2.size ≤ k.toNat) (fun s => s.1) (k.toNat, ⟨#[]⟩) (by simp; omega) ⟨rfl, Nat.le_refl _⟩ ?_
    rintro ⟨n, out⟩ ⟨h1, h2⟩
    simp only at h1 h2
    unfold pl196_0
    have ht : (n : Int).tmod 10 = (n : Int) % 10 := Int.tmod_eq_emod_of_nonneg (by omega)
    have hq : IntKind.wrap .i64 (48 + (n : Int).tmod 10) = 48 + (n : Int).tmod 10 := by rw [ht]; exact wrap_i64 (by omega) (by omega)
    have hd : IntKind.wrap .i64 ((n : Int).tdiv 10) = ((n / 10 : Nat) : Int) := by rw [Int.tdiv_eq_ediv_of_nonneg (by omega)]; rw [wrap_i64 (by omega) (by omega)]; omega
    have hs1 : (9223372036854775807 < 1 + (out.size : Int)) = False := by simp only [eq_iff_iff, iff_false]; omega
    have hd2 : IntKind.wrap .i64 ((n : Int) / 10) = (n : Int) / 10 := wrap_i64 (by omega) (by omega)
    repeat' (first
      | with_reducible (first | refine wp_seq ?_ | refine wp_blk ?_ | refine wp_skip ?_ | refine wp_exit ?_ | refine wp_ret ?_ | refine seqQ_norm ?_ | refine seqQ_ret ?_ | refine seqQ_exit ?_ | refine blkQ_norm ?_ | refine blkQ_ret ?_ | refine blkQ_exit ?_ | refine loopQ_norm ?_ | refine loopQ_exit ?_ | refine loopQ_ret ?_ | refine endQ_ret ?_ | refine endQ_norm ?_ | refine endE_ret ?_ | refine endE_norm ?_ | refine endI_ret ?_ | refine endI_norm ?_)
      | (with_reducible refine wp_regK fun K hK => ?_
         simp[hq, hd, hs1]
         repeat' (with_reducible first | refine hK _ ?_ | (refine psel ?_ ?_ <;> (intro hc; (try rw [Decidable.not_not] at hc); first | (exfalso; omega) | (try simp [hc, hq, hd, hs1]))))
         all_goals (clear hK; clear K))
      | (with_reducible refine wp_condE ?_
         refine ⟨_, rfl, ?_, ?_⟩ <;> (intro hc; (try simp at hc); (all_goals first | (exfalso; omega) | skip))))
    all_goals first | (exact ⟨(n / 10, ⟨#[UInt8.ofNat (IntKind.wrap .u8 (48 + (n : Int).tmod 10)).toNat]⟩ ++ out), by simp [hd2], ⟨by rw [← h1, digF_succ n out (by omega)], by simp only [ByteArray.size_append, ba_one]; omega⟩, by simp only; omega⟩) | skip
    all_goals first | (exfalso; omega) | (subst hc; rw [digF_zero] at h1; have hk : ¬ k ≤ 0 := by omega
                                          subst h1; simp [pf196, mtext, hk]; done)

@[simp] theorem flatD_nil : flatD [] = true := rfl

@[simp] theorem flatD_map {α : Type} (f : α → List D) (l : List α) (h : ∀ x, (f x).all D.scal = true) : flatD (l.map f) = true := by
  simp only [flatD, List.all_map, List.all_eq_true, Function.comp]
  exact fun x _ => List.all_eq_true.1 (h x)

@[simp] theorem flatD_one (e : List D) (l : List (List D)) : flatD (e :: l) = (e.all D.scal && flatD l) := rfl

@[simp] theorem flatD_app (l m : List (List D)) : flatD (l ++ m) = (flatD l && flatD m) := by simp [flatD]

def ctVal : XVal → Int
  | ⟨y_Ty, y_N, y_S⟩ => 1 + 1 + 1

def ctVals : List XVal → Int
  | [] => 0
  | x :: l => ctVal x + ctVals l

def mkVal : Int → XVal → XVal
  | k, ⟨y_Ty, y_N, y_S⟩ => ⟨k, k + 1, mtext (k + 1 + 1)⟩

def mkVals : Int → List XVal → List XVal
  | _, [] => []
  | k, x :: l => mkVal k x :: mkVals (k + ctVal x) l

theorem ctVal_pos : ∀ x : XVal, 1 ≤ ctVal x
  | ⟨y_Ty, y_N, y_S⟩ => by simp only [ctVal]; omega

theorem ctVals_len : ∀ l : List XVal, (l.length : Int) ≤ ctVals l
  | [] => by simp [ctVals]
  | x :: l => by have h1 := ctVal_pos x; have h2 := ctVals_len l; simp only [ctVals, List.length_cons]; omega

theorem ctVals_nn (l : List XVal) : 0 ≤ ctVals l := by have := ctVals_len l; omega

@[simp] theorem mkVals_len : ∀ (k : Int) (l : List XVal), (mkVals k l).length = l.length
  | _, [] => by simp [mkVals]
  | k, x :: l => by simp [mkVals, mkVals_len]

theorem ctVals_le : ∀ l : List XVal, ctVals l = 3 * (l.length : Int)
  | [] => by simp [ctVals]
  | x :: l => by have h2 := ctVals_le l; simp only [ctVals, List.length_cons, ctVal]; omega

def ctSlot : XSlot → Int
  | ⟨y_Ins, y_L⟩ => 1 + ctVals y_L

def ctSlots : List XSlot → Int
  | [] => 0
  | x :: l => ctSlot x + ctSlots l

def mkSlot : Int → XSlot → XSlot
  | k, ⟨y_Ins, y_L⟩ => ⟨k, mkVals (k + 1) y_L⟩

def mkSlots : Int → List XSlot → List XSlot
  | _, [] => []
  | k, x :: l => mkSlot k x :: mkSlots (k + ctSlot x) l

theorem ctSlot_pos : ∀ x : XSlot, 1 ≤ ctSlot x
  | ⟨y_Ins, y_L⟩ => by have h_y_L := ctVals_nn y_L; simp only [ctSlot]; omega

theorem ctSlots_len : ∀ l : List XSlot, (l.length : Int) ≤ ctSlots l
  | [] => by simp [ctSlots]
  | x :: l => by have h1 := ctSlot_pos x; have h2 := ctSlots_len l; simp only [ctSlots, List.length_cons]; omega

theorem ctSlots_nn (l : List XSlot) : 0 ≤ ctSlots l := by have := ctSlots_len l; omega

@[simp] theorem mkSlots_len : ∀ (k : Int) (l : List XSlot), (mkSlots k l).length = l.length
  | _, [] => by simp [mkSlots]
  | k, x :: l => by simp [mkSlots, mkSlots_len]

theorem ctSlots_le : ∀ l : List XSlot, XSlot.sms l → ctSlots l ≤ 3145729 * (l.length : Int)
  | [], _ => by simp [ctSlots]
  | ⟨y_Ins, y_L⟩ :: l, h => by
    have h2 := ctSlots_le l fun y hy => h y (List.mem_cons_of_mem _ hy)
    have hd := h ⟨y_Ins, y_L⟩ (by simp)
    simp only [XSlot.sm, and_assoc] at hd
    obtain ⟨hsm_y_L, hsms_y_L⟩ := hd
    have h_y_L := ctVals_le y_L
    simp only [ctSlots, List.length_cons, ctSlot]
    omega

def ctRow : XRow → Int
  | ⟨y_Id, y_L⟩ => 1 + ctVals y_L

def ctRows : List XRow → Int
  | [] => 0
  | x :: l => ctRow x + ctRows l

def mkRow : Int → XRow → XRow
  | k, ⟨y_Id, y_L⟩ => ⟨k, mkVals (k + 1) y_L⟩

def mkRows : Int → List XRow → List XRow
  | _, [] => []
  | k, x :: l => mkRow k x :: mkRows (k + ctRow x) l

theorem ctRow_pos : ∀ x : XRow, 1 ≤ ctRow x
  | ⟨y_Id, y_L⟩ => by have h_y_L := ctVals_nn y_L; simp only [ctRow]; omega

theorem ctRows_len : ∀ l : List XRow, (l.length : Int) ≤ ctRows l
  | [] => by simp [ctRows]
  | x :: l => by have h1 := ctRow_pos x; have h2 := ctRows_len l; simp only [ctRows, List.length_cons]; omega

theorem ctRows_nn (l : List XRow) : 0 ≤ ctRows l := by have := ctRows_len l; omega

@[simp] theorem mkRows_len : ∀ (k : Int) (l : List XRow), (mkRows k l).length = l.length
  | _, [] => by simp [mkRows]
  | k, x :: l => by simp [mkRows, mkRows_len]

theorem ctRows_le : ∀ l : List XRow, XRow.sms l → ctRows l ≤ 3145729 * (l.length : Int)
  | [], _ => by simp [ctRows]
  | ⟨y_Id, y_L⟩ :: l, h => by
    have h2 := ctRows_le l fun y hy => h y (List.mem_cons_of_mem _ hy)
    have hd := h ⟨y_Id, y_L⟩ (by simp)
    simp only [XRow.sm, and_assoc] at hd
    obtain ⟨hsm_y_L, hsms_y_L⟩ := hd
    have h_y_L := ctVals_le y_L
    simp only [ctRows, List.length_cons, ctRow]
    omega

@[simp] theorem t197 (l : List XVal) (k : Int) (h0 : 0 ≤ k) (hc : k + ctVals l ≤ 4611686018427387904) : Gw TT 197 [.one (.own (.sl 3 (l.map XVal.e))), vi k] = some (vi (k + ctVals l), [(0, 0, .own (.sl 3 ((mkVals k l).map XVal.e)))]) := by
  refine Gw_of (F := pf197) rfl rfl ?_
  show Wp _ pb197 _ _
  unfold pb197
  generalize hM : mkVals k l = M
  have hlen := ctVals_len l
  repeat' (first
    | with_reducible (first | refine wp_seq ?_ | refine wp_blk ?_ | refine wp_skip ?_ | refine wp_exit ?_ | refine wp_ret ?_ | refine seqQ_norm ?_ | refine seqQ_ret ?_ | refine seqQ_exit ?_ | refine blkQ_norm ?_ | refine blkQ_ret ?_ | refine blkQ_exit ?_ | refine loopQ_norm ?_ | refine loopQ_exit ?_ | refine loopQ_ret ?_ | refine endQ_ret ?_ | refine endQ_norm ?_ | refine endE_ret ?_ | refine endE_norm ?_ | refine endI_ret ?_ | refine endI_norm ?_)
    | (with_reducible refine wp_regK fun K hK => ?_
       simp
       repeat' (with_reducible first | refine hK _ ?_ | (refine psel ?_ ?_ <;> (intro hc; (try rw [Decidable.not_not] at hc); first | (exfalso; omega) | (try simp [hc]))))
       all_goals (clear hK; clear K))
    | (with_reducible refine wp_condE ?_
       refine ⟨_, rfl, ?_, ?_⟩ <;> (intro hc; (try simp at hc); (all_goals first | (exfalso; omega) | skip))))
  · refine wp_loopI (σ := List XVal × List XVal × Int) (fun s => [(0, AV.pl 0 0 [], some (Rt.vir [C.own (D.sl 3 (s.1.map XVal.e ++ s.2.1.map XVal.e))])), (1, AV.v false (di s.2.2), none), (5, AV.v false (di ((s.1.length : Nat) : Int)), none)]) (fun s => M = s.1 ++ mkVals s.2.2 s.2.1 ∧ s.2.2 + ctVals s.2.1 = k + ctVals l ∧ s.1.length + s.2.1.length = l.length ∧ 0 ≤ s.2.2) (fun s => s.2.1.length) ([], l, k) (by simp) ⟨hM.symm, rfl, by simp, h0⟩ ?_
    rintro ⟨pre, rest, k1⟩ ⟨h1, h2, h3, h4⟩
    simp only at h1 h2 h3 h4
    rcases rest with _ | ⟨⟨y_Ty, y_N, y_S⟩, rest⟩
    · unfold pl197_0
      simp only [mkVals, ctVals, List.append_nil, Int.add_zero] at h1 h2
      subst h1
      repeat' (first
        | with_reducible (first | refine wp_seq ?_ | refine wp_blk ?_ | refine wp_skip ?_ | refine wp_exit ?_ | refine wp_ret ?_ | refine seqQ_norm ?_ | refine seqQ_ret ?_ | refine seqQ_exit ?_ | refine blkQ_norm ?_ | refine blkQ_ret ?_ | refine blkQ_exit ?_ | refine loopQ_norm ?_ | refine loopQ_exit ?_ | refine loopQ_ret ?_ | refine endQ_ret ?_ | refine endQ_norm ?_ | refine endE_ret ?_ | refine endE_norm ?_ | refine endI_ret ?_ | refine endI_norm ?_)
        | (with_reducible refine wp_regK fun K hK => ?_
           simp
           repeat' (with_reducible first | refine hK _ ?_ | (refine psel ?_ ?_ <;> (intro hc; (try rw [Decidable.not_not] at hc); first | (exfalso; omega) | (try simp [hc]))))
           all_goals (clear hK; clear K))
        | (with_reducible refine wp_condE ?_
           refine ⟨_, rfl, ?_, ?_⟩ <;> (intro hc; (try simp at hc); (all_goals first | (exfalso; omega) | skip))))
      all_goals simp [pf197, h2]
    · unfold pl197_0
      simp only [mkVals, ctVals, mkVal, ctVal, List.length_cons] at h1 h2 h3
      have hnr := ctVals_nn rest
      have hw0 : IntKind.wrap .i64 (k1 + 1) = k1 + 1 := wrap_i64 (by omega) (by omega)
      have hw1 : IntKind.wrap .i64 (k1 + 1 + 1) = k1 + 1 + 1 := wrap_i64 (by omega) (by omega)
      have hw2 : IntKind.wrap .i64 (k1 + 1 + 1 + 1) = k1 + 1 + 1 + 1 := wrap_i64 (by omega) (by omega)
      have ht2 : k1 + 1 + 1 ≤ 4611686018427387904 := by omega
      have hE : k1 + (1 + 1 + 1) = k1 + 1 + 1 + 1 := by omega
      rw [hE] at h1
      have hw : IntKind.wrap .i64 ((pre.length : Int) + 1) = (pre.length : Int) + 1 := wrap_i64 (by omega) (by omega)
      subst h1
      repeat' (first
        | with_reducible (first | refine wp_seq ?_ | refine wp_blk ?_ | refine wp_skip ?_ | refine wp_exit ?_ | refine wp_ret ?_ | refine seqQ_norm ?_ | refine seqQ_ret ?_ | refine seqQ_exit ?_ | refine blkQ_norm ?_ | refine blkQ_ret ?_ | refine blkQ_exit ?_ | refine loopQ_norm ?_ | refine loopQ_exit ?_ | refine loopQ_ret ?_ | refine endQ_ret ?_ | refine endQ_norm ?_ | refine endE_ret ?_ | refine endE_norm ?_ | refine endI_ret ?_ | refine endI_norm ?_)
        | (with_reducible refine wp_regK fun K hK => ?_
           simp[hw0, hw1, hw2, ht2, hw]
           repeat' (with_reducible first | refine hK _ ?_ | (refine psel ?_ ?_ <;> (intro hc; (try rw [Decidable.not_not] at hc); first | (exfalso; omega) | (try simp [hc, hw0, hw1, hw2, ht2, hw]))))
           all_goals (clear hK; clear K))
        | (with_reducible refine wp_condE ?_
           refine ⟨_, rfl, ?_, ?_⟩ <;> (intro hc; (try simp at hc); (all_goals first | (exfalso; omega) | skip))))
      all_goals first | (exfalso; simp_all; done) | exact ⟨(pre ++ [mkVal k1 ⟨y_Ty, y_N, y_S⟩], rest, k1 + 1 + 1 + 1), by simp [mkVal], ⟨by simp [mkVal, ctVal], by simp only; omega, by simp only [List.length_append, List.length_cons, List.length_nil]; omega, by simp only; omega⟩, by simp⟩

@[simp] theorem t181 (k0 : Bool) (l : List XVal) (k : Int) (h0 : 0 ≤ k) (hc : k + ctVals l ≤ 4611686018427387904) : Gw TT 181 [.one (.ro k0 (.sl 3 ((mkVals k l).map XVal.e))), vi k] = some (vi (k + ctVals l), []) := by
  refine Gw_of (F := pf181) rfl rfl ?_
  show Wp _ pb181 _ _
  unfold pb181
  generalize hM : mkVals k l = M
  have hlen := ctVals_len l
  repeat' (first
    | with_reducible (first | refine wp_seq ?_ | refine wp_blk ?_ | refine wp_skip ?_ | refine wp_exit ?_ | refine wp_ret ?_ | refine seqQ_norm ?_ | refine seqQ_ret ?_ | refine seqQ_exit ?_ | refine blkQ_norm ?_ | refine blkQ_ret ?_ | refine blkQ_exit ?_ | refine loopQ_norm ?_ | refine loopQ_exit ?_ | refine loopQ_ret ?_ | refine endQ_ret ?_ | refine endQ_norm ?_ | refine endE_ret ?_ | refine endE_norm ?_ | refine endI_ret ?_ | refine endI_norm ?_)
    | (with_reducible refine wp_regK fun K hK => ?_
       simp
       repeat' (with_reducible first | refine hK _ ?_ | (refine psel ?_ ?_ <;> (intro hc; (try rw [Decidable.not_not] at hc); first | (exfalso; omega) | (try simp [hc]))))
       all_goals (clear hK; clear K))
    | (with_reducible refine wp_condE ?_
       refine ⟨_, rfl, ?_, ?_⟩ <;> (intro hc; (try simp at hc); (all_goals first | (exfalso; omega) | skip))))
  · refine wp_loopI (σ := List XVal × List XVal × Int) (fun s => [(0, AV.v k0 (D.sl 3 (M.map XVal.e)), none), (1, AV.v false (di s.2.2), none), (5, AV.v false (di ((s.1.length : Nat) : Int)), none)]) (fun s => M = s.1 ++ mkVals s.2.2 s.2.1 ∧ s.2.2 + ctVals s.2.1 = k + ctVals l ∧ s.1.length + s.2.1.length = l.length ∧ 0 ≤ s.2.2) (fun s => s.2.1.length) ([], l, k) (by simp [hM]) ⟨hM.symm, rfl, by simp, h0⟩ ?_
    rintro ⟨pre, rest, k1⟩ ⟨h1, h2, h3, h4⟩
    simp only at h1 h2 h3 h4
    rcases rest with _ | ⟨⟨y_Ty, y_N, y_S⟩, rest⟩
    · unfold pl181_0
      simp only [mkVals, ctVals, List.append_nil, Int.add_zero] at h1 h2
      subst h1
      repeat' (first
        | with_reducible (first | refine wp_seq ?_ | refine wp_blk ?_ | refine wp_skip ?_ | refine wp_exit ?_ | refine wp_ret ?_ | refine seqQ_norm ?_ | refine seqQ_ret ?_ | refine seqQ_exit ?_ | refine blkQ_norm ?_ | refine blkQ_ret ?_ | refine blkQ_exit ?_ | refine loopQ_norm ?_ | refine loopQ_exit ?_ | refine loopQ_ret ?_ | refine endQ_ret ?_ | refine endQ_norm ?_ | refine endE_ret ?_ | refine endE_norm ?_ | refine endI_ret ?_ | refine endI_norm ?_)
        | (with_reducible refine wp_regK fun K hK => ?_
           simp
           repeat' (with_reducible first | refine hK _ ?_ | (refine psel ?_ ?_ <;> (intro hc; (try rw [Decidable.not_not] at hc); first | (exfalso; omega) | (try simp [hc]))))
           all_goals (clear hK; clear K))
        | (with_reducible refine wp_condE ?_
           refine ⟨_, rfl, ?_, ?_⟩ <;> (intro hc; (try simp at hc); (all_goals first | (exfalso; omega) | skip))))
      all_goals simp [pf181, h2]
    · unfold pl181_0
      simp only [mkVals, ctVals, mkVal, ctVal, List.length_cons] at h1 h2 h3
      have hnr := ctVals_nn rest
      have hw0 : IntKind.wrap .i64 (k1 + 1) = k1 + 1 := wrap_i64 (by omega) (by omega)
      have hw1 : IntKind.wrap .i64 (k1 + 1 + 1) = k1 + 1 + 1 := wrap_i64 (by omega) (by omega)
      have hw2 : IntKind.wrap .i64 (k1 + 1 + 1 + 1) = k1 + 1 + 1 + 1 := wrap_i64 (by omega) (by omega)
      have ht2 : k1 + 1 + 1 ≤ 4611686018427387904 := by omega
      have hE : k1 + (1 + 1 + 1) = k1 + 1 + 1 + 1 := by omega
      rw [hE] at h1
      have hw : IntKind.wrap .i64 ((pre.length : Int) + 1) = (pre.length : Int) + 1 := wrap_i64 (by omega) (by omega)
      subst h1
      repeat' (first
        | with_reducible (first | refine wp_seq ?_ | refine wp_blk ?_ | refine wp_skip ?_ | refine wp_exit ?_ | refine wp_ret ?_ | refine seqQ_norm ?_ | refine seqQ_ret ?_ | refine seqQ_exit ?_ | refine blkQ_norm ?_ | refine blkQ_ret ?_ | refine blkQ_exit ?_ | refine loopQ_norm ?_ | refine loopQ_exit ?_ | refine loopQ_ret ?_ | refine endQ_ret ?_ | refine endQ_norm ?_ | refine endE_ret ?_ | refine endE_norm ?_ | refine endI_ret ?_ | refine endI_norm ?_)
        | (with_reducible refine wp_regK fun K hK => ?_
           simp[hw0, hw1, hw2, ht2, hw]
           repeat' (with_reducible first | refine hK _ ?_ | (refine psel ?_ ?_ <;> (intro hc; (try rw [Decidable.not_not] at hc); first | (exfalso; omega) | (try simp [hc, hw0, hw1, hw2, ht2, hw]))))
           all_goals (clear hK; clear K))
        | (with_reducible refine wp_condE ?_
           refine ⟨_, rfl, ?_, ?_⟩ <;> (intro hc; (try simp at hc); (all_goals first | (exfalso; omega) | skip))))
      all_goals first | (exfalso; simp_all; done) | exact ⟨(pre ++ [mkVal k1 ⟨y_Ty, y_N, y_S⟩], rest, k1 + 1 + 1 + 1), by simp [mkVal], ⟨by simp [mkVal, ctVal], by simp only; omega, by simp only [List.length_append, List.length_cons, List.length_nil]; omega, by simp only; omega⟩, by simp⟩

@[simp] theorem t194 (l : List XSlot) (k : Int) (h0 : 0 ≤ k) (hc : k + ctSlots l ≤ 4611686018427387904) : Gw TT 194 [.one (.own (.sl 2 (l.map XSlot.e))), vi k] = some (vi (k + ctSlots l), [(0, 0, .own (.sl 2 ((mkSlots k l).map XSlot.e)))]) := by
  refine Gw_of (F := pf194) rfl rfl ?_
  show Wp _ pb194 _ _
  unfold pb194
  generalize hM : mkSlots k l = M
  have hlen := ctSlots_len l
  repeat' (first
    | with_reducible (first | refine wp_seq ?_ | refine wp_blk ?_ | refine wp_skip ?_ | refine wp_exit ?_ | refine wp_ret ?_ | refine seqQ_norm ?_ | refine seqQ_ret ?_ | refine seqQ_exit ?_ | refine blkQ_norm ?_ | refine blkQ_ret ?_ | refine blkQ_exit ?_ | refine loopQ_norm ?_ | refine loopQ_exit ?_ | refine loopQ_ret ?_ | refine endQ_ret ?_ | refine endQ_norm ?_ | refine endE_ret ?_ | refine endE_norm ?_ | refine endI_ret ?_ | refine endI_norm ?_)
    | (with_reducible refine wp_regK fun K hK => ?_
       simp
       repeat' (with_reducible first | refine hK _ ?_ | (refine psel ?_ ?_ <;> (intro hc; (try rw [Decidable.not_not] at hc); first | (exfalso; omega) | (try simp [hc]))))
       all_goals (clear hK; clear K))
    | (with_reducible refine wp_condE ?_
       refine ⟨_, rfl, ?_, ?_⟩ <;> (intro hc; (try simp at hc); (all_goals first | (exfalso; omega) | skip))))
  · refine wp_loopI (σ := List XSlot × List XSlot × Int) (fun s => [(0, AV.pl 0 0 [], some (Rt.vir [C.own (D.sl 2 (s.1.map XSlot.e ++ s.2.1.map XSlot.e))])), (1, AV.v false (di s.2.2), none), (5, AV.v false (di ((s.1.length : Nat) : Int)), none)]) (fun s => M = s.1 ++ mkSlots s.2.2 s.2.1 ∧ s.2.2 + ctSlots s.2.1 = k + ctSlots l ∧ s.1.length + s.2.1.length = l.length ∧ 0 ≤ s.2.2) (fun s => s.2.1.length) ([], l, k) (by simp) ⟨hM.symm, rfl, by simp, h0⟩ ?_
    rintro ⟨pre, rest, k1⟩ ⟨h1, h2, h3, h4⟩
    simp only at h1 h2 h3 h4
    rcases rest with _ | ⟨⟨y_Ins, y_L⟩, rest⟩
    · unfold pl194_0
      simp only [mkSlots, ctSlots, List.append_nil, Int.add_zero] at h1 h2
      subst h1
      repeat' (first
        | with_reducible (first | refine wp_seq ?_ | refine wp_blk ?_ | refine wp_skip ?_ | refine wp_exit ?_ | refine wp_ret ?_ | refine seqQ_norm ?_ | refine seqQ_ret ?_ | refine seqQ_exit ?_ | refine blkQ_norm ?_ | refine blkQ_ret ?_ | refine blkQ_exit ?_ | refine loopQ_norm ?_ | refine loopQ_exit ?_ | refine loopQ_ret ?_ | refine endQ_ret ?_ | refine endQ_norm ?_ | refine endE_ret ?_ | refine endE_norm ?_ | refine endI_ret ?_ | refine endI_norm ?_)
        | (with_reducible refine wp_regK fun K hK => ?_
           simp
           repeat' (with_reducible first | refine hK _ ?_ | (refine psel ?_ ?_ <;> (intro hc; (try rw [Decidable.not_not] at hc); first | (exfalso; omega) | (try simp [hc]))))
           all_goals (clear hK; clear K))
        | (with_reducible refine wp_condE ?_
           refine ⟨_, rfl, ?_, ?_⟩ <;> (intro hc; (try simp at hc); (all_goals first | (exfalso; omega) | skip))))
      all_goals simp [pf194, h2]
    · unfold pl194_0
      simp only [mkSlots, ctSlots, mkSlot, ctSlot, List.length_cons] at h1 h2 h3
      have hnr := ctSlots_nn rest
      have hn_y_L := ctVals_nn y_L
      have hw0 : IntKind.wrap .i64 (k1 + 1) = k1 + 1 := wrap_i64 (by omega) (by omega)
      have hz1 : 0 ≤ k1 + 1 := by omega
      have hy1 : k1 + 1 + ctVals y_L ≤ 4611686018427387904 := by omega
      have hE : k1 + (1 + ctVals y_L) = k1 + 1 + ctVals y_L := by omega
      rw [hE] at h1
      have hw : IntKind.wrap .i64 ((pre.length : Int) + 1) = (pre.length : Int) + 1 := wrap_i64 (by omega) (by omega)
      subst h1
      repeat' (first
        | with_reducible (first | refine wp_seq ?_ | refine wp_blk ?_ | refine wp_skip ?_ | refine wp_exit ?_ | refine wp_ret ?_ | refine seqQ_norm ?_ | refine seqQ_ret ?_ | refine seqQ_exit ?_ | refine blkQ_norm ?_ | refine blkQ_ret ?_ | refine blkQ_exit ?_ | refine loopQ_norm ?_ | refine loopQ_exit ?_ | refine loopQ_ret ?_ | refine endQ_ret ?_ | refine endQ_norm ?_ | refine endE_ret ?_ | refine endE_norm ?_ | refine endI_ret ?_ | refine endI_norm ?_)
        | (with_reducible refine wp_regK fun K hK => ?_
           simp[hw0, hz1, hy1, hw]
           repeat' (with_reducible first | refine hK _ ?_ | (refine psel ?_ ?_ <;> (intro hc; (try rw [Decidable.not_not] at hc); first | (exfalso; omega) | (try simp [hc, hw0, hz1, hy1, hw]))))
           all_goals (clear hK; clear K))
        | (with_reducible refine wp_condE ?_
           refine ⟨_, rfl, ?_, ?_⟩ <;> (intro hc; (try simp at hc); (all_goals first | (exfalso; omega) | skip))))
      all_goals first | (exfalso; simp_all; done) | exact ⟨(pre ++ [mkSlot k1 ⟨y_Ins, y_L⟩], rest, k1 + 1 + ctVals y_L), by simp [mkSlot], ⟨by simp [mkSlot, ctSlot], by simp only; omega, by simp only [List.length_append, List.length_cons, List.length_nil]; omega, by simp only; omega⟩, by simp⟩

@[simp] theorem t193 (l : List XRow) (k : Int) (h0 : 0 ≤ k) (hc : k + ctRows l ≤ 4611686018427387904) : Gw TT 193 [.one (.own (.sl 2 (l.map XRow.e))), vi k] = some (vi (k + ctRows l), [(0, 0, .own (.sl 2 ((mkRows k l).map XRow.e)))]) := by
  refine Gw_of (F := pf193) rfl rfl ?_
  show Wp _ pb193 _ _
  unfold pb193
  generalize hM : mkRows k l = M
  have hlen := ctRows_len l
  repeat' (first
    | with_reducible (first | refine wp_seq ?_ | refine wp_blk ?_ | refine wp_skip ?_ | refine wp_exit ?_ | refine wp_ret ?_ | refine seqQ_norm ?_ | refine seqQ_ret ?_ | refine seqQ_exit ?_ | refine blkQ_norm ?_ | refine blkQ_ret ?_ | refine blkQ_exit ?_ | refine loopQ_norm ?_ | refine loopQ_exit ?_ | refine loopQ_ret ?_ | refine endQ_ret ?_ | refine endQ_norm ?_ | refine endE_ret ?_ | refine endE_norm ?_ | refine endI_ret ?_ | refine endI_norm ?_)
    | (with_reducible refine wp_regK fun K hK => ?_
       simp
       repeat' (with_reducible first | refine hK _ ?_ | (refine psel ?_ ?_ <;> (intro hc; (try rw [Decidable.not_not] at hc); first | (exfalso; omega) | (try simp [hc]))))
       all_goals (clear hK; clear K))
    | (with_reducible refine wp_condE ?_
       refine ⟨_, rfl, ?_, ?_⟩ <;> (intro hc; (try simp at hc); (all_goals first | (exfalso; omega) | skip))))
  · refine wp_loopI (σ := List XRow × List XRow × Int) (fun s => [(0, AV.pl 0 0 [], some (Rt.vir [C.own (D.sl 2 (s.1.map XRow.e ++ s.2.1.map XRow.e))])), (1, AV.v false (di s.2.2), none), (5, AV.v false (di ((s.1.length : Nat) : Int)), none)]) (fun s => M = s.1 ++ mkRows s.2.2 s.2.1 ∧ s.2.2 + ctRows s.2.1 = k + ctRows l ∧ s.1.length + s.2.1.length = l.length ∧ 0 ≤ s.2.2) (fun s => s.2.1.length) ([], l, k) (by simp) ⟨hM.symm, rfl, by simp, h0⟩ ?_
    rintro ⟨pre, rest, k1⟩ ⟨h1, h2, h3, h4⟩
    simp only at h1 h2 h3 h4
    rcases rest with _ | ⟨⟨y_Id, y_L⟩, rest⟩
    · unfold pl193_0
      simp only [mkRows, ctRows, List.append_nil, Int.add_zero] at h1 h2
      subst h1
      repeat' (first
        | with_reducible (first | refine wp_seq ?_ | refine wp_blk ?_ | refine wp_skip ?_ | refine wp_exit ?_ | refine wp_ret ?_ | refine seqQ_norm ?_ | refine seqQ_ret ?_ | refine seqQ_exit ?_ | refine blkQ_norm ?_ | refine blkQ_ret ?_ | refine blkQ_exit ?_ | refine loopQ_norm ?_ | refine loopQ_exit ?_ | refine loopQ_ret ?_ | refine endQ_ret ?_ | refine endQ_norm ?_ | refine endE_ret ?_ | refine endE_norm ?_ | refine endI_ret ?_ | refine endI_norm ?_)
        | (with_reducible refine wp_regK fun K hK => ?_
           simp
           repeat' (with_reducible first | refine hK _ ?_ | (refine psel ?_ ?_ <;> (intro hc; (try rw [Decidable.not_not] at hc); first | (exfalso; omega) | (try simp [hc]))))
           all_goals (clear hK; clear K))
        | (with_reducible refine wp_condE ?_
           refine ⟨_, rfl, ?_, ?_⟩ <;> (intro hc; (try simp at hc); (all_goals first | (exfalso; omega) | skip))))
      all_goals simp [pf193, h2]
    · unfold pl193_0
      simp only [mkRows, ctRows, mkRow, ctRow, List.length_cons] at h1 h2 h3
      have hnr := ctRows_nn rest
      have hn_y_L := ctVals_nn y_L
      have hw0 : IntKind.wrap .i64 (k1 + 1) = k1 + 1 := wrap_i64 (by omega) (by omega)
      have hz1 : 0 ≤ k1 + 1 := by omega
      have hy1 : k1 + 1 + ctVals y_L ≤ 4611686018427387904 := by omega
      have hE : k1 + (1 + ctVals y_L) = k1 + 1 + ctVals y_L := by omega
      rw [hE] at h1
      have hw : IntKind.wrap .i64 ((pre.length : Int) + 1) = (pre.length : Int) + 1 := wrap_i64 (by omega) (by omega)
      subst h1
      repeat' (first
        | with_reducible (first | refine wp_seq ?_ | refine wp_blk ?_ | refine wp_skip ?_ | refine wp_exit ?_ | refine wp_ret ?_ | refine seqQ_norm ?_ | refine seqQ_ret ?_ | refine seqQ_exit ?_ | refine blkQ_norm ?_ | refine blkQ_ret ?_ | refine blkQ_exit ?_ | refine loopQ_norm ?_ | refine loopQ_exit ?_ | refine loopQ_ret ?_ | refine endQ_ret ?_ | refine endQ_norm ?_ | refine endE_ret ?_ | refine endE_norm ?_ | refine endI_ret ?_ | refine endI_norm ?_)
        | (with_reducible refine wp_regK fun K hK => ?_
           simp[hw0, hz1, hy1, hw]
           repeat' (with_reducible first | refine hK _ ?_ | (refine psel ?_ ?_ <;> (intro hc; (try rw [Decidable.not_not] at hc); first | (exfalso; omega) | (try simp [hc, hw0, hz1, hy1, hw]))))
           all_goals (clear hK; clear K))
        | (with_reducible refine wp_condE ?_
           refine ⟨_, rfl, ?_, ?_⟩ <;> (intro hc; (try simp at hc); (all_goals first | (exfalso; omega) | skip))))
      all_goals first | (exfalso; simp_all; done) | exact ⟨(pre ++ [mkRow k1 ⟨y_Id, y_L⟩], rest, k1 + 1 + ctVals y_L), by simp [mkRow], ⟨by simp [mkRow, ctRow], by simp only; omega, by simp only [List.length_append, List.length_cons, List.length_nil]; omega, by simp only; omega⟩, by simp⟩

@[simp] theorem t178 (k0 : Bool) (l : List XRow) (k : Int) (h0 : 0 ≤ k) (hc : k + ctRows l ≤ 4611686018427387904) : Gw TT 178 [.one (.ro k0 (.sl 2 ((mkRows k l).map XRow.e))), vi k] = some (vi (k + ctRows l), []) := by
  refine Gw_of (F := pf178) rfl rfl ?_
  show Wp _ pb178 _ _
  unfold pb178
  generalize hM : mkRows k l = M
  have hlen := ctRows_len l
  repeat' (first
    | with_reducible (first | refine wp_seq ?_ | refine wp_blk ?_ | refine wp_skip ?_ | refine wp_exit ?_ | refine wp_ret ?_ | refine seqQ_norm ?_ | refine seqQ_ret ?_ | refine seqQ_exit ?_ | refine blkQ_norm ?_ | refine blkQ_ret ?_ | refine blkQ_exit ?_ | refine loopQ_norm ?_ | refine loopQ_exit ?_ | refine loopQ_ret ?_ | refine endQ_ret ?_ | refine endQ_norm ?_ | refine endE_ret ?_ | refine endE_norm ?_ | refine endI_ret ?_ | refine endI_norm ?_)
    | (with_reducible refine wp_regK fun K hK => ?_
       simp
       repeat' (with_reducible first | refine hK _ ?_ | (refine psel ?_ ?_ <;> (intro hc; (try rw [Decidable.not_not] at hc); first | (exfalso; omega) | (try simp [hc]))))
       all_goals (clear hK; clear K))
    | (with_reducible refine wp_condE ?_
       refine ⟨_, rfl, ?_, ?_⟩ <;> (intro hc; (try simp at hc); (all_goals first | (exfalso; omega) | skip))))
  · refine wp_loopI (σ := List XRow × List XRow × Int) (fun s => [(0, AV.v k0 (D.sl 2 (M.map XRow.e)), none), (1, AV.v false (di s.2.2), none), (5, AV.v false (di ((s.1.length : Nat) : Int)), none)]) (fun s => M = s.1 ++ mkRows s.2.2 s.2.1 ∧ s.2.2 + ctRows s.2.1 = k + ctRows l ∧ s.1.length + s.2.1.length = l.length ∧ 0 ≤ s.2.2) (fun s => s.2.1.length) ([], l, k) (by simp [hM]) ⟨hM.symm, rfl, by simp, h0⟩ ?_
    rintro ⟨pre, rest, k1⟩ ⟨h1, h2, h3, h4⟩
    simp only at h1 h2 h3 h4
    rcases rest with _ | ⟨⟨y_Id, y_L⟩, rest⟩
    · unfold pl178_0
      simp only [mkRows, ctRows, List.append_nil, Int.add_zero] at h1 h2
      subst h1
      repeat' (first
        | with_reducible (first | refine wp_seq ?_ | refine wp_blk ?_ | refine wp_skip ?_ | refine wp_exit ?_ | refine wp_ret ?_ | refine seqQ_norm ?_ | refine seqQ_ret ?_ | refine seqQ_exit ?_ | refine blkQ_norm ?_ | refine blkQ_ret ?_ | refine blkQ_exit ?_ | refine loopQ_norm ?_ | refine loopQ_exit ?_ | refine loopQ_ret ?_ | refine endQ_ret ?_ | refine endQ_norm ?_ | refine endE_ret ?_ | refine endE_norm ?_ | refine endI_ret ?_ | refine endI_norm ?_)
        | (with_reducible refine wp_regK fun K hK => ?_
           simp
           repeat' (with_reducible first | refine hK _ ?_ | (refine psel ?_ ?_ <;> (intro hc; (try rw [Decidable.not_not] at hc); first | (exfalso; omega) | (try simp [hc]))))
           all_goals (clear hK; clear K))
        | (with_reducible refine wp_condE ?_
           refine ⟨_, rfl, ?_, ?_⟩ <;> (intro hc; (try simp at hc); (all_goals first | (exfalso; omega) | skip))))
      all_goals simp [pf178, h2]
    · unfold pl178_0
      simp only [mkRows, ctRows, mkRow, ctRow, List.length_cons] at h1 h2 h3
      have hnr := ctRows_nn rest
      have hn_y_L := ctVals_nn y_L
      have hw0 : IntKind.wrap .i64 (k1 + 1) = k1 + 1 := wrap_i64 (by omega) (by omega)
      have hz1 : 0 ≤ k1 + 1 := by omega
      have hy1 : k1 + 1 + ctVals y_L ≤ 4611686018427387904 := by omega
      have hE : k1 + (1 + ctVals y_L) = k1 + 1 + ctVals y_L := by omega
      rw [hE] at h1
      have hw : IntKind.wrap .i64 ((pre.length : Int) + 1) = (pre.length : Int) + 1 := wrap_i64 (by omega) (by omega)
      subst h1
      repeat' (first
        | with_reducible (first | refine wp_seq ?_ | refine wp_blk ?_ | refine wp_skip ?_ | refine wp_exit ?_ | refine wp_ret ?_ | refine seqQ_norm ?_ | refine seqQ_ret ?_ | refine seqQ_exit ?_ | refine blkQ_norm ?_ | refine blkQ_ret ?_ | refine blkQ_exit ?_ | refine loopQ_norm ?_ | refine loopQ_exit ?_ | refine loopQ_ret ?_ | refine endQ_ret ?_ | refine endQ_norm ?_ | refine endE_ret ?_ | refine endE_norm ?_ | refine endI_ret ?_ | refine endI_norm ?_)
        | (with_reducible refine wp_regK fun K hK => ?_
           simp[hw0, hz1, hy1, hw]
           repeat' (with_reducible first | refine hK _ ?_ | (refine psel ?_ ?_ <;> (intro hc; (try rw [Decidable.not_not] at hc); first | (exfalso; omega) | (try simp [hc, hw0, hz1, hy1, hw]))))
           all_goals (clear hK; clear K))
        | (with_reducible refine wp_condE ?_
           refine ⟨_, rfl, ?_, ?_⟩ <;> (intro hc; (try simp at hc); (all_goals first | (exfalso; omega) | skip))))
      all_goals first | (exfalso; simp_all; done) | exact ⟨(pre ++ [mkRow k1 ⟨y_Id, y_L⟩], rest, k1 + 1 + ctVals y_L), by simp [mkRow], ⟨by simp [mkRow, ctRow], by simp only; omega, by simp only [List.length_append, List.length_cons, List.length_nil]; omega, by simp only; omega⟩, by simp⟩

@[simp] theorem t185 (x_Next : Int) (x_L : List XSlot) (k : Int) (h0 : 0 ≤ k) (hc : k + ctSlots x_L ≤ 4611686018427387904) : Gw TT 185 [.st [.ro false (di x_Next), .own (.sl 2 (x_L.map XSlot.e))], vi k] = some (vi (k + ctSlots x_L), [(0, 1, .own (.sl 2 ((mkSlots (k) x_L).map XSlot.e)))]) := by
  refine Gw_of (F := pf185) rfl rfl ?_
  show Wp _ pb185 _ _
  unfold pb185
  have hn_x_L := ctSlots_nn x_L
  have hz1 : 0 ≤ k := by omega
  have hy1 : k + ctSlots x_L ≤ 4611686018427387904 := by omega
  repeat' (first
    | with_reducible (first | refine wp_seq ?_ | refine wp_blk ?_ | refine wp_skip ?_ | refine wp_exit ?_ | refine wp_ret ?_ | refine seqQ_norm ?_ | refine seqQ_ret ?_ | refine seqQ_exit ?_ | refine blkQ_norm ?_ | refine blkQ_ret ?_ | refine blkQ_exit ?_ | refine loopQ_norm ?_ | refine loopQ_exit ?_ | refine loopQ_ret ?_ | refine endQ_ret ?_ | refine endQ_norm ?_ | refine endE_ret ?_ | refine endE_norm ?_ | refine endI_ret ?_ | refine endI_norm ?_)
    | (with_reducible refine wp_regK fun K hK => ?_
       simp[hz1, hy1]
       repeat' (with_reducible first | refine hK _ ?_ | (refine psel ?_ ?_ <;> (intro hc; (try rw [Decidable.not_not] at hc); first | (exfalso; omega) | (try simp [hc, hz1, hy1]))))
       all_goals (clear hK; clear K))
    | (with_reducible refine wp_condE ?_
       refine ⟨_, rfl, ?_, ?_⟩ <;> (intro hc; (try simp at hc); (all_goals first | (exfalso; omega) | skip))))
  all_goals first | (simp [pf185]; done) | (exfalso; omega)

@[simp] theorem take_all1 {α : Type} {n : Nat} (l r : List α) (x : α) (h : n = l.length + (r.length + 1)) : (l ++ x :: r).take n = l ++ x :: r := by
  rw [List.take_of_length_le]
  simp only [List.length_append, List.length_cons]
  omega

@[simp] theorem drop_mid1 {α : Type} {n : Nat} (l r : List α) (x : α) (h : n = l.length + 1) : (l ++ x :: r).drop n = r := by
  subst h
  rw [List.drop_append]
  simp

@[simp] theorem take_len_map {α β : Type} (f : α → β) (l : List α) : (l.map f).take l.length = l.map f := by
  rw [List.take_of_length_le]; simp

@[simp] theorem flatD_drop_map {α : Type} (f : α → List D) (l : List α) (n : Nat) (h : ∀ x, (f x).all D.scal = true) : flatD ((l.map f).drop n) = true := by
  rw [← List.map_drop]; exact flatD_map f _ h

@[simp] theorem flatD_take_map {α : Type} (f : α → List D) (l : List α) (n : Nat) (h : ∀ x, (f x).all D.scal = true) : flatD ((l.map f).take n) = true := by
  rw [← List.map_take]; exact flatD_map f _ h

@[simp] theorem live_int (k : IntKind) (n : Int) : (D.int k n).live = true := rfl

@[simp] theorem live_bool (b : Bool) : (D.bool b).live = true := rfl

@[simp] theorem live_str (s : ByteArray) : (D.str s).live = true := rfl

@[simp] theorem live_sl (sz : Nat) (es : List (List D)) : (D.sl sz es).live = true := rfl

@[simp] theorem t76 (k0 : Bool) (l : List XVal) (h : l.length ≤ 1048576) : Gw TT 76 [.one (.ro k0 (.sl 3 (l.map XVal.e)))] = some (.one (.own (.sl 3 (l.map XVal.e))), []) := by
  refine Gw_of (F := pf76) rfl rfl ?_
  show Wp _ pb76 _ _
  unfold pb76
  repeat' (first
    | with_reducible (first | refine wp_seq ?_ | refine wp_blk ?_ | refine wp_skip ?_ | refine wp_exit ?_ | refine wp_ret ?_ | refine seqQ_norm ?_ | refine seqQ_ret ?_ | refine seqQ_exit ?_ | refine blkQ_norm ?_ | refine blkQ_ret ?_ | refine blkQ_exit ?_ | refine loopQ_norm ?_ | refine loopQ_exit ?_ | refine loopQ_ret ?_ | refine endQ_ret ?_ | refine endQ_norm ?_ | refine endE_ret ?_ | refine endE_norm ?_ | refine endI_ret ?_ | refine endI_norm ?_)
    | (with_reducible refine wp_regK fun K hK => ?_
       simp[h]
       repeat' (with_reducible first | refine hK _ ?_ | (refine psel ?_ ?_ <;> (intro hc; (try rw [Decidable.not_not] at hc); first | (exfalso; omega) | (try simp [hc, h]))))
       all_goals (clear hK; clear K))
    | (with_reducible refine wp_condE ?_
       refine ⟨_, rfl, ?_, ?_⟩ <;> (intro hc; (try simp at hc); (all_goals first | (exfalso; omega) | skip))))
  all_goals first | (simp [pf76]; done) | (exfalso; omega)

def cameB (n ts : Int) : Bool := decide (1 ≤ n ∧ n ≤ ts)

@[simp] theorem t7 (n ts : Int) : Gw TT 7 [vi n, vi ts] = some (vb (cameB n ts), []) := by
  refine Gw_of (F := pf7) rfl rfl ?_
  show Wp _ pb7 _ _
  unfold pb7
  repeat' (first
    | with_reducible (first | refine wp_seq ?_ | refine wp_blk ?_ | refine wp_skip ?_ | refine wp_exit ?_ | refine wp_ret ?_ | refine seqQ_norm ?_ | refine seqQ_ret ?_ | refine seqQ_exit ?_ | refine blkQ_norm ?_ | refine blkQ_ret ?_ | refine blkQ_exit ?_ | refine loopQ_norm ?_ | refine loopQ_exit ?_ | refine loopQ_ret ?_ | refine endQ_ret ?_ | refine endQ_norm ?_ | refine endE_ret ?_ | refine endE_norm ?_ | refine endI_ret ?_ | refine endI_norm ?_)
    | (with_reducible refine wp_regK fun K hK => ?_
       simp
       repeat' (with_reducible first | refine hK _ ?_ | (refine psel ?_ ?_ <;> (intro hc; (try rw [Decidable.not_not] at hc); first | (exfalso; omega) | (try simp [hc]))))
       all_goals (clear hK; clear K))
    | (with_reducible refine wp_condE ?_
       refine ⟨_, rfl, ?_, ?_⟩ <;> (intro hc; (try simp at hc); (all_goals first | (exfalso; omega) | skip))))
  all_goals first | (simp_all [pf7, cameB]; done) | (simp [pf7, cameB]; omega)

@[simp] theorem t263 (n ts : Int) : Gw TT 263 [vi n, vi ts] = some (vb (cameB n ts), []) := by
  refine Gw_of (F := pf263) rfl rfl ?_
  show Wp _ pb263 _ _
  unfold pb263
  repeat' (first
    | with_reducible (first | refine wp_seq ?_ | refine wp_blk ?_ | refine wp_skip ?_ | refine wp_exit ?_ | refine wp_ret ?_ | refine seqQ_norm ?_ | refine seqQ_ret ?_ | refine seqQ_exit ?_ | refine blkQ_norm ?_ | refine blkQ_ret ?_ | refine blkQ_exit ?_ | refine loopQ_norm ?_ | refine loopQ_exit ?_ | refine loopQ_ret ?_ | refine endQ_ret ?_ | refine endQ_norm ?_ | refine endE_ret ?_ | refine endE_norm ?_ | refine endI_ret ?_ | refine endI_norm ?_)
    | (with_reducible refine wp_regK fun K hK => ?_
       simp
       repeat' (with_reducible first | refine hK _ ?_ | (refine psel ?_ ?_ <;> (intro hc; (try rw [Decidable.not_not] at hc); first | (exfalso; omega) | (try simp [hc]))))
       all_goals (clear hK; clear K))
    | (with_reducible refine wp_condE ?_
       refine ⟨_, rfl, ?_, ?_⟩ <;> (intro hc; (try simp at hc); (all_goals first | (exfalso; omega) | skip))))
  all_goals first | (simp_all [pf263, cameB]; done) | (simp [pf263, cameB]; omega)

def rowsOfF (first ts : Int) : Int → List XSlot → List XRow
  | _, [] => []
  | i, d :: l => if cameB d.Ins ts = true then ⟨IntKind.wrap .i64 (first + i), d.L⟩ :: rowsOfF first ts (i + 1) l else rowsOfF first ts (i + 1) l

theorem rowsOfF_len (first ts : Int) : ∀ (l : List XSlot) (i : Int), (rowsOfF first ts i l).length ≤ l.length
  | [], i => by simp [rowsOfF]
  | d :: l, i => by
    have := rowsOfF_len first ts l (i + 1)
    simp only [rowsOfF]
    split <;> simp only [List.length_cons] <;> omega

theorem rowsOfF_sms (first ts : Int) : ∀ (l : List XSlot) (i : Int), XSlot.sms l → XRow.sms (rowsOfF first ts i l)
  | [], i, h => by intro y hy; simp [rowsOfF] at hy
  | d :: l, i, h => by
    have h1 := rowsOfF_sms first ts l (i + 1) fun y hy => h y (List.mem_cons_of_mem _ hy)
    have h2 := h d (by simp)
    simp only [rowsOfF]
    split
    · intro y hy
      rcases List.mem_cons.1 hy with rfl | hy
      · simpa [XSlot.sm, XRow.sm] using h2
      · exact h1 y hy
    · exact h1

@[simp] theorem t44 (k0 : Bool) (x_Next : Int) (x_L : List XSlot) (first ts : Int) (h : x_L.length ≤ 1048576) (hs : XSlot.sms x_L) : Gw TT 44 [.st [.ro false (di x_Next), .ro k0 (.sl 2 (x_L.map XSlot.e))], vi first, vi ts] = some (.one (.own (.sl 2 ((rowsOfF first ts 0 x_L).map XRow.e))), []) := by
  refine Gw_of (F := pf44) rfl rfl ?_
  show Wp _ pb44 _ _
  unfold pb44
  repeat' (first
    | with_reducible (first | refine wp_seq ?_ | refine wp_blk ?_ | refine wp_skip ?_ | refine wp_exit ?_ | refine wp_ret ?_ | refine seqQ_norm ?_ | refine seqQ_ret ?_ | refine seqQ_exit ?_ | refine blkQ_norm ?_ | refine blkQ_ret ?_ | refine blkQ_exit ?_ | refine loopQ_norm ?_ | refine loopQ_exit ?_ | refine loopQ_ret ?_ | refine endQ_ret ?_ | refine endQ_norm ?_ | refine endE_ret ?_ | refine endE_norm ?_ | refine endI_ret ?_ | refine endI_norm ?_)
    | (with_reducible refine wp_regK fun K hK => ?_
       simp
       repeat' (with_reducible first | refine hK _ ?_ | (refine psel ?_ ?_ <;> (intro hc; (try rw [Decidable.not_not] at hc); first | (exfalso; omega) | (try simp [hc]))))
       all_goals (clear hK; clear K))
    | (with_reducible refine wp_condE ?_
       refine ⟨_, rfl, ?_, ?_⟩ <;> (intro hc; (try simp at hc); (all_goals first | (exfalso; omega) | skip))))
  refine wp_loopI (σ := List (XSlot) × List (XSlot) × List (XRow)) (fun s => [(1, AV.v false (di first), none), (2, AV.v false (di ts), none), (3, AV.bx 3 0, some (Rt.bx [.ro false (di x_Next), .ro k0 (.sl 2 (x_L.map XSlot.e))])), (7, AV.pl 7 0 [], some (Rt.vir [C.own (D.sl 2 ((s.2.2).map XRow.e))])), (12, AV.v k0 (D.sl 2 (x_L.map XSlot.e)), none), (13, AV.v false (di (x_L.length : Nat)), none), (14, AV.v false (di ((s.1.length : Nat) : Int)), none)]) (fun s => x_L = s.1 ++ s.2.1 ∧ s.2.2 ++ rowsOfF first ts ((s.1.length : Nat) : Int) s.2.1 = rowsOfF first ts (0 : Int) x_L ∧ s.2.2.length ≤ s.1.length) (fun s => s.2.1.length) ([], x_L, []) (by simp) ⟨rfl, by first | rfl | simp, Nat.le_refl _⟩ ?_
  rintro ⟨pre, rest, a⟩ ⟨h1, h2, h3⟩
  simp only at h1 h2 h3
  subst h1
  simp only [List.length_append, List.length_cons] at h
  rcases rest with _ | ⟨d, rest⟩
  · unfold pl44_0
    try simp only [rowsOfF, List.append_nil] at h2
    repeat' (first
      | with_reducible (first | refine wp_seq ?_ | refine wp_blk ?_ | refine wp_skip ?_ | refine wp_exit ?_ | refine wp_ret ?_ | refine seqQ_norm ?_ | refine seqQ_ret ?_ | refine seqQ_exit ?_ | refine blkQ_norm ?_ | refine blkQ_ret ?_ | refine blkQ_exit ?_ | refine loopQ_norm ?_ | refine loopQ_exit ?_ | refine loopQ_ret ?_ | refine endQ_ret ?_ | refine endQ_norm ?_ | refine endE_ret ?_ | refine endE_norm ?_ | refine endI_ret ?_ | refine endI_norm ?_)
      | (with_reducible refine wp_regK fun K hK => ?_
         simp
         repeat' (with_reducible first | refine hK _ ?_ | (refine psel ?_ ?_ <;> (intro hc; (try rw [Decidable.not_not] at hc); first | (exfalso; omega) | (try simp [hc]))))
         all_goals (clear hK; clear K))
      | (with_reducible refine wp_condE ?_
         refine ⟨_, rfl, ?_, ?_⟩ <;> (intro hc; (try simp at hc); (all_goals first | (exfalso; omega) | skip))))
    all_goals first | (simp_all [pf44]; done) | (simp_all [pf44]; omega)
  · unfold pl44_0
    simp only [List.length_cons] at h
    try simp only [rowsOfF] at h2
    have hw : IntKind.wrap .i64 ((pre.length : Int) + 1) = (pre.length : Int) + 1 := wrap_i64 (by omega) (by omega)
    have hd := hs d (by simp)
    simp only [XSlot.sm, and_assoc] at hd
    obtain ⟨hsm_L, hsms_L⟩ := hd
    have hq1 : (a.length + 1) * 32 ≤ 70368744177664 := by omega
    have hq2 : d.L.length * 32 ≤ 70368744177664 := by omega
    repeat' (first
      | with_reducible (first | refine wp_seq ?_ | refine wp_blk ?_ | refine wp_skip ?_ | refine wp_exit ?_ | refine wp_ret ?_ | refine seqQ_norm ?_ | refine seqQ_ret ?_ | refine seqQ_exit ?_ | refine blkQ_norm ?_ | refine blkQ_ret ?_ | refine blkQ_exit ?_ | refine loopQ_norm ?_ | refine loopQ_exit ?_ | refine loopQ_ret ?_ | refine endQ_ret ?_ | refine endQ_norm ?_ | refine endE_ret ?_ | refine endE_norm ?_ | refine endI_ret ?_ | refine endI_norm ?_)
      | (with_reducible refine wp_regK fun K hK => ?_
         simp[hw, hsm_L, hsms_L, hq1, hq2]
         repeat' (with_reducible first | refine hK _ ?_ | (refine psel ?_ ?_ <;> (intro hc; (try rw [Decidable.not_not] at hc); first | (exfalso; omega) | (try simp [hc, hw, hsm_L, hsms_L, hq1, hq2]))))
         all_goals (clear hK; clear K))
      | (with_reducible refine wp_condE ?_
         refine ⟨_, rfl, ?_, ?_⟩ <;> (intro hc; (try simp at hc); (all_goals first | (exfalso; omega) | skip))))
    all_goals first | (refine ⟨(pre ++ [d], rest, a ++ [⟨IntKind.wrap .i64 (first + (pre.length : Int)), d.L⟩]), ?_, ⟨?_, ?_, ?_⟩, ?_⟩; (focus (first | (simp; done) | (simp_all; done))); (focus (simp; done)); (focus (refine Eq.trans ?_ h2; clear h2; first | (simp [*]; done) | (simp_all; done)));  (focus (simp only [List.length_append, List.length_cons, List.length_nil]; omega)); (focus (simp; done))) | (refine ⟨(pre ++ [d], rest, a), ?_, ⟨?_, ?_, ?_⟩, ?_⟩; (focus (first | (simp; done) | (simp_all; done))); (focus (simp; done)); (focus (refine Eq.trans ?_ h2; clear h2; first | (simp [*]; done) | (simp_all; done)));  (focus (simp only [List.length_append, List.length_cons, List.length_nil]; omega)); (focus (simp; done))) | (simp_all [pf44]; done) | (exfalso; omega)

@[simp] theorem t325 (k0 : Bool) (x_Next : Int) (x_L : List XSlot) (first ts : Int) (h : x_L.length ≤ 1048576) (hs : XSlot.sms x_L) : Gw TT 325 [.st [.ro false (di x_Next), .ro k0 (.sl 2 (x_L.map XSlot.e))], vi first, vi ts] = some (.one (.own (.sl 2 ((rowsOfF first ts 0 x_L).map XRow.e))), []) := by
  refine Gw_of (F := pf325) rfl rfl ?_
  show Wp _ pb325 _ _
  unfold pb325
  repeat' (first
    | with_reducible (first | refine wp_seq ?_ | refine wp_blk ?_ | refine wp_skip ?_ | refine wp_exit ?_ | refine wp_ret ?_ | refine seqQ_norm ?_ | refine seqQ_ret ?_ | refine seqQ_exit ?_ | refine blkQ_norm ?_ | refine blkQ_ret ?_ | refine blkQ_exit ?_ | refine loopQ_norm ?_ | refine loopQ_exit ?_ | refine loopQ_ret ?_ | refine endQ_ret ?_ | refine endQ_norm ?_ | refine endE_ret ?_ | refine endE_norm ?_ | refine endI_ret ?_ | refine endI_norm ?_)
    | (with_reducible refine wp_regK fun K hK => ?_
       simp
       repeat' (with_reducible first | refine hK _ ?_ | (refine psel ?_ ?_ <;> (intro hc; (try rw [Decidable.not_not] at hc); first | (exfalso; omega) | (try simp [hc]))))
       all_goals (clear hK; clear K))
    | (with_reducible refine wp_condE ?_
       refine ⟨_, rfl, ?_, ?_⟩ <;> (intro hc; (try simp at hc); (all_goals first | (exfalso; omega) | skip))))
  refine wp_loopI (σ := List (XSlot) × List (XSlot) × List (XRow)) (fun s => [(1, AV.v false (di first), none), (2, AV.v false (di ts), none), (3, AV.bx 3 0, some (Rt.bx [.ro false (di x_Next), .ro k0 (.sl 2 (x_L.map XSlot.e))])), (7, AV.pl 7 0 [], some (Rt.vir [C.own (D.sl 2 ((s.2.2).map XRow.e))])), (8, AV.v false (di ((s.1.length : Nat) : Int)), none)]) (fun s => x_L = s.1 ++ s.2.1 ∧ s.2.2 ++ rowsOfF first ts ((s.1.length : Nat) : Int) s.2.1 = rowsOfF first ts (0 : Int) x_L ∧ s.2.2.length ≤ s.1.length) (fun s => s.2.1.length) ([], x_L, []) (by simp) ⟨rfl, by first | rfl | simp, Nat.le_refl _⟩ ?_
  rintro ⟨pre, rest, a⟩ ⟨h1, h2, h3⟩
  simp only at h1 h2 h3
  subst h1
  simp only [List.length_append, List.length_cons] at h
  rcases rest with _ | ⟨d, rest⟩
  · unfold pl325_0
    try simp only [rowsOfF, List.append_nil] at h2
    repeat' (first
      | with_reducible (first | refine wp_seq ?_ | refine wp_blk ?_ | refine wp_skip ?_ | refine wp_exit ?_ | refine wp_ret ?_ | refine seqQ_norm ?_ | refine seqQ_ret ?_ | refine seqQ_exit ?_ | refine blkQ_norm ?_ | refine blkQ_ret ?_ | refine blkQ_exit ?_ | refine loopQ_norm ?_ | refine loopQ_exit ?_ | refine loopQ_ret ?_ | refine endQ_ret ?_ | refine endQ_norm ?_ | refine endE_ret ?_ | refine endE_norm ?_ | refine endI_ret ?_ | refine endI_norm ?_)
      | (with_reducible refine wp_regK fun K hK => ?_
         simp
         repeat' (with_reducible first | refine hK _ ?_ | (refine psel ?_ ?_ <;> (intro hc; (try rw [Decidable.not_not] at hc); first | (exfalso; omega) | (try simp [hc]))))
         all_goals (clear hK; clear K))
      | (with_reducible refine wp_condE ?_
         refine ⟨_, rfl, ?_, ?_⟩ <;> (intro hc; (try simp at hc); (all_goals first | (exfalso; omega) | skip))))
    all_goals first | (simp_all [pf325]; done) | (simp_all [pf325]; omega)
  · unfold pl325_0
    simp only [List.length_cons] at h
    try simp only [rowsOfF] at h2
    have hw : IntKind.wrap .i64 ((pre.length : Int) + 1) = (pre.length : Int) + 1 := wrap_i64 (by omega) (by omega)
    have hd := hs d (by simp)
    simp only [XSlot.sm, and_assoc] at hd
    obtain ⟨hsm_L, hsms_L⟩ := hd
    have hq1 : (a.length + 1) * 32 ≤ 70368744177664 := by omega
    have hq2 : d.L.length * 32 ≤ 70368744177664 := by omega
    repeat' (first
      | with_reducible (first | refine wp_seq ?_ | refine wp_blk ?_ | refine wp_skip ?_ | refine wp_exit ?_ | refine wp_ret ?_ | refine seqQ_norm ?_ | refine seqQ_ret ?_ | refine seqQ_exit ?_ | refine blkQ_norm ?_ | refine blkQ_ret ?_ | refine blkQ_exit ?_ | refine loopQ_norm ?_ | refine loopQ_exit ?_ | refine loopQ_ret ?_ | refine endQ_ret ?_ | refine endQ_norm ?_ | refine endE_ret ?_ | refine endE_norm ?_ | refine endI_ret ?_ | refine endI_norm ?_)
      | (with_reducible refine wp_regK fun K hK => ?_
         simp[hw, hsm_L, hsms_L, hq1, hq2]
         repeat' (with_reducible first | refine hK _ ?_ | (refine psel ?_ ?_ <;> (intro hc; (try rw [Decidable.not_not] at hc); first | (exfalso; omega) | (try simp [hc, hw, hsm_L, hsms_L, hq1, hq2]))))
         all_goals (clear hK; clear K))
      | (with_reducible refine wp_condE ?_
         refine ⟨_, rfl, ?_, ?_⟩ <;> (intro hc; (try simp at hc); (all_goals first | (exfalso; omega) | skip))))
    all_goals first | (refine ⟨(pre ++ [d], rest, a ++ [⟨IntKind.wrap .i64 (first + (pre.length : Int)), d.L⟩]), ?_, ⟨?_, ?_, ?_⟩, ?_⟩; (focus (first | (simp; done) | (simp_all; done))); (focus (simp; done)); (focus (refine Eq.trans ?_ h2; clear h2; first | (simp [*]; done) | (simp_all; done)));  (focus (simp only [List.length_append, List.length_cons, List.length_nil]; omega)); (focus (simp; done))) | (refine ⟨(pre ++ [d], rest, a), ?_, ⟨?_, ?_, ?_⟩, ?_⟩; (focus (first | (simp; done) | (simp_all; done))); (focus (simp; done)); (focus (refine Eq.trans ?_ h2; clear h2; first | (simp [*]; done) | (simp_all; done)));  (focus (simp only [List.length_append, List.length_cons, List.length_nil]; omega)); (focus (simp; done))) | (simp_all [pf325]; done) | (exfalso; omega)

theorem t123 (aC_Next : Int) (aC_L : List XSlot) (aFirst : Int) (aTs : Int) (hok_aC_L : aC_L.length ≤ 9223372036854775807) (hoks_aC_L : XSlot.oks aC_L) : Gw TT 123 [.st [.ro false (di aC_Next), .ro false (.sl 2 (aC_L.map XSlot.e))], .one (.ro false (di aFirst)), .one (.ro false (di aTs))] = some (vb true, []) := by
  refine Gw_of (F := pf123) rfl rfl ?_
  show Wp _ pb123 _ _
  unfold pb123
  obtain ⟨n1, g1, a1, b1, s1⟩ := t213 false aC_Next aC_L 1048576 (by omega) (by omega) hok_aC_L hoks_aC_L
  repeat' (first
    | with_reducible (first | refine wp_seq ?_ | refine wp_blk ?_ | refine wp_skip ?_ | refine wp_exit ?_ | refine wp_ret ?_ | refine seqQ_norm ?_ | refine seqQ_ret ?_ | refine seqQ_exit ?_ | refine blkQ_norm ?_ | refine blkQ_ret ?_ | refine blkQ_exit ?_ | refine loopQ_norm ?_ | refine loopQ_exit ?_ | refine loopQ_ret ?_ | refine endQ_ret ?_ | refine endQ_norm ?_ | refine endE_ret ?_ | refine endE_norm ?_ | refine endI_ret ?_ | refine endI_norm ?_)
    | (with_reducible refine wp_regK fun K hK => ?_
       simp[g1]
       repeat' (with_reducible first | refine hK _ ?_ | (refine psel ?_ ?_ <;> (intro hc; (try rw [Decidable.not_not] at hc); first | (exfalso; omega) | (try simp [hc, g1]))))
       all_goals (clear hK; clear K))
    | (with_reducible refine wp_condE ?_
       refine ⟨_, rfl, ?_, ?_⟩ <;> (intro hc; (try simp at hc); (all_goals first | (exfalso; omega) | skip))))
  · simp [pf123]
  have q1 := s1 (by omega)
  obtain ⟨hsm_aC_L, hsms_aC_L⟩ := q1
  have hps := rowsOfF_sms aFirst aTs aC_L 0 hsms_aC_L
  have cn0 := ctSlots_nn (aC_L)
  have cl0 := ctSlots_le (aC_L) hsms_aC_L
  have cb0 : 1 + ctSlots aC_L ≤ 4611686018427387904 := by omega
  have cn1 := ctRows_nn (rowsOfF aFirst aTs 0 aC_L)
  have cl1 := ctRows_le (rowsOfF aFirst aTs 0 aC_L) (rowsOfF_sms aFirst aTs aC_L 0 hsms_aC_L)
  have ch1 : (rowsOfF aFirst aTs 0 aC_L).length ≤ 1048576 := Nat.le_trans (rowsOfF_len _ _ _ _) hsm_aC_L
  have cb1 : 1 + ctRows (rowsOfF aFirst aTs 0 aC_L) ≤ 4611686018427387904 := by omega
  repeat' (first
    | with_reducible (first | refine wp_seq ?_ | refine wp_blk ?_ | refine wp_skip ?_ | refine wp_exit ?_ | refine wp_ret ?_ | refine seqQ_norm ?_ | refine seqQ_ret ?_ | refine seqQ_exit ?_ | refine blkQ_norm ?_ | refine blkQ_ret ?_ | refine blkQ_exit ?_ | refine loopQ_norm ?_ | refine loopQ_exit ?_ | refine loopQ_ret ?_ | refine endQ_ret ?_ | refine endQ_norm ?_ | refine endE_ret ?_ | refine endE_norm ?_ | refine endI_ret ?_ | refine endI_norm ?_)
    | (with_reducible refine wp_regK fun K hK => ?_
       simp[hsm_aC_L, hsms_aC_L, hps, cb0, ch1, cb1]
       repeat' (with_reducible first | refine hK _ ?_ | (refine psel ?_ ?_ <;> (intro hc; (try rw [Decidable.not_not] at hc); first | (exfalso; omega) | (try simp [hc, hsm_aC_L, hsms_aC_L, hps, cb0, ch1, cb1]))))
       all_goals (clear hK; clear K))
    | (with_reducible refine wp_condE ?_
       refine ⟨_, rfl, ?_, ?_⟩ <;> (intro hc; (try simp at hc); (all_goals first | (exfalso; omega) | skip))))
  all_goals first | (simp [pf123]; done) | (simp_all [pf123]; done)

end Go.Proofs.Ytloninhfmfggaaa.OM
