/- What the functions answer. -/
import Derived.Test.YtkgibccknlbiaaaXFWholesLm0
set_option linter.all false
namespace Go.Proofs.Ytkgibccknlbiaaa.OM
set_option maxHeartbeats 4000000
set_option maxRecDepth 100000

@[simp] theorem t62 (k0 : Bool) (x_Next : Int) (x_L : List XSlot) (ts : Int) (h5 : x_L.length ≤ 1048576) (hs : XSlot.sms x_L) : Gw TT 62 [.st [.ro false (di x_Next), .ro k0 (.sl 2 (x_L.map XSlot.e))], vi ts] = some (vb (wholeF ts x_Next x_L), []) := by
  refine Gw_of (F := pf62) rfl rfl ?_
  show Wp _ pb62 _ _
  unfold pb62
  repeat' (first
    | with_reducible (first | refine wp_seq ?_ | refine wp_blk ?_ | refine wp_skip ?_ | refine wp_exit ?_ | refine wp_ret ?_ | refine seqQ_norm ?_ | refine seqQ_ret ?_ | refine seqQ_exit ?_ | refine blkQ_norm ?_ | refine blkQ_ret ?_ | refine blkQ_exit ?_ | refine loopQ_norm ?_ | refine loopQ_exit ?_ | refine loopQ_ret ?_ | refine endQ_ret ?_ | refine endQ_norm ?_ | refine endE_ret ?_ | refine endE_norm ?_ | refine endI_ret ?_ | refine endI_norm ?_)
    | (with_reducible refine wp_regK fun K hK => ?_
       simp
       repeat' (with_reducible first | refine hK _ ?_ | (refine psel ?_ ?_ <;> (intro hc; (try rw [Decidable.not_not] at hc); first | (exfalso; omega) | (try simp [hc]))))
       all_goals (clear hK; clear K))
    | (with_reducible refine wp_condE ?_
       refine ⟨_, rfl, ?_, ?_⟩ <;> (intro hc; (try simp at hc); (all_goals first | (exfalso; omega) | skip))))
  refine wp_loopI (σ := List XSlot × List XSlot) (fun s => [(1, AV.v false (di ts), none), (2, AV.bx 2 0, some (Rt.bx [.ro false (di x_Next), .ro k0 (.sl 2 (x_L.map XSlot.e))])), (8, AV.v k0 (D.sl 2 (x_L.map XSlot.e)), none), (9, AV.v false (di (x_L.length : Nat)), none), (10, AV.v false (di ((s.1.length : Nat) : Int)), none)]) (fun s => x_L = s.1 ++ s.2 ∧ allCame ts s.2 = allCame ts x_L) (fun s => s.2.length) ([], x_L) (by simp) ⟨rfl, rfl⟩ ?_
  rintro ⟨p2, r2⟩ ⟨h2, h4⟩
  simp only at h2 h4
  have y3 : x_L.length = p2.length + r2.length := by rw [h2, List.length_append]
  rcases r2 with _ | ⟨d, r2⟩
  · simp only [List.length_nil] at y3
    simp only [allCame] at h4
    have y4 : ¬ (p2.length : Int) < (x_L.length : Int) := by omega
    unfold pl62_0
    by_cases z : x_Next = (x_L.length : Int)
    · repeat' (first
        | with_reducible (first | refine wp_seq ?_ | refine wp_blk ?_ | refine wp_skip ?_ | refine wp_exit ?_ | refine wp_ret ?_ | refine seqQ_norm ?_ | refine seqQ_ret ?_ | refine seqQ_exit ?_ | refine blkQ_norm ?_ | refine blkQ_ret ?_ | refine blkQ_exit ?_ | refine loopQ_norm ?_ | refine loopQ_exit ?_ | refine loopQ_ret ?_ | refine endQ_ret ?_ | refine endQ_norm ?_ | refine endE_ret ?_ | refine endE_norm ?_ | refine endI_ret ?_ | refine endI_norm ?_)
        | (with_reducible refine wp_regK fun K hK => ?_
           simp[y4, z]
           repeat' (with_reducible first | refine hK _ ?_ | (refine psel ?_ ?_ <;> (intro hc; (try rw [Decidable.not_not] at hc); first | (exfalso; omega) | (try simp [hc, y4, z]))))
           all_goals (clear hK; clear K))
        | (with_reducible refine wp_condE ?_
           refine ⟨_, rfl, ?_, ?_⟩ <;> (intro hc; (try simp at hc); (all_goals first | (exfalso; omega) | skip))))
      all_goals first | (simp [pf62, wholeF, z, ← h4]; done) | (exfalso; omega) | skip
    · have z2 : (x_Next == (x_L.length : Int)) = false := by simpa using z
      repeat' (first
        | with_reducible (first | refine wp_seq ?_ | refine wp_blk ?_ | refine wp_skip ?_ | refine wp_exit ?_ | refine wp_ret ?_ | refine seqQ_norm ?_ | refine seqQ_ret ?_ | refine seqQ_exit ?_ | refine blkQ_norm ?_ | refine blkQ_ret ?_ | refine blkQ_exit ?_ | refine loopQ_norm ?_ | refine loopQ_exit ?_ | refine loopQ_ret ?_ | refine endQ_ret ?_ | refine endQ_norm ?_ | refine endE_ret ?_ | refine endE_norm ?_ | refine endI_ret ?_ | refine endI_norm ?_)
        | (with_reducible refine wp_regK fun K hK => ?_
           simp[y4, z, z2]
           repeat' (with_reducible first | refine hK _ ?_ | (refine psel ?_ ?_ <;> (intro hc; (try rw [Decidable.not_not] at hc); first | (exfalso; omega) | (try simp [hc, y4, z, z2]))))
           all_goals (clear hK; clear K))
        | (with_reducible refine wp_condE ?_
           refine ⟨_, rfl, ?_, ?_⟩ <;> (intro hc; (try simp at hc); (all_goals first | (exfalso; omega) | skip))))
      all_goals first | (simp [pf62, wholeF, z, ← h4]; done) | (exfalso; omega) | skip
  · simp only [List.length_cons] at y3
    have hd := hs d (by rw [h2]; simp)
    simp only [XSlot.sm] at hd
    obtain ⟨hd1, hd2⟩ := hd
    simp only [allCame] at h4
    have hg2 : x_L[p2.length]? = some d := by rw [h2]; simp
    obtain ⟨hlt, he2⟩ := List.getElem?_eq_some_iff.1 hg2
    have y4 : (p2.length : Int) < (x_L.length : Int) := by omega
    have hw : IntKind.wrap .i64 ((p2.length : Int) + 1) = (p2.length : Int) + 1 := wrap_i64 (by omega) (by omega)
    unfold pl62_0
    by_cases o : cameB d.Ins ts = true
    · rw [if_pos o] at h4
      repeat' (first
        | with_reducible (first | refine wp_seq ?_ | refine wp_blk ?_ | refine wp_skip ?_ | refine wp_exit ?_ | refine wp_ret ?_ | refine seqQ_norm ?_ | refine seqQ_ret ?_ | refine seqQ_exit ?_ | refine blkQ_norm ?_ | refine blkQ_ret ?_ | refine blkQ_exit ?_ | refine loopQ_norm ?_ | refine loopQ_exit ?_ | refine loopQ_ret ?_ | refine endQ_ret ?_ | refine endQ_norm ?_ | refine endE_ret ?_ | refine endE_norm ?_ | refine endI_ret ?_ | refine endI_norm ?_)
        | (with_reducible refine wp_regK fun K hK => ?_
           simp[hg2, he2, hlt, y4, hw, hd1, hd2, o]
           repeat' (with_reducible first | refine hK _ ?_ | (refine psel ?_ ?_ <;> (intro hc; (try rw [Decidable.not_not] at hc); first | (exfalso; omega) | (try simp [hc, hg2, he2, hlt, y4, hw, hd1, hd2, o]))))
           all_goals (clear hK; clear K))
        | (with_reducible refine wp_condE ?_
           refine ⟨_, rfl, ?_, ?_⟩ <;> (intro hc; (try simp at hc); (all_goals first | (exfalso; omega) | skip))))
      all_goals first | exact ⟨(p2 ++ [d], r2), by simp, ⟨by rw [h2]; simp, h4⟩, by simp⟩ | (exfalso; omega) | skip
    · rw [if_neg o] at h4
      have o2 : cameB d.Ins ts = false := by simpa using o
      repeat' (first
        | with_reducible (first | refine wp_seq ?_ | refine wp_blk ?_ | refine wp_skip ?_ | refine wp_exit ?_ | refine wp_ret ?_ | refine seqQ_norm ?_ | refine seqQ_ret ?_ | refine seqQ_exit ?_ | refine blkQ_norm ?_ | refine blkQ_ret ?_ | refine blkQ_exit ?_ | refine loopQ_norm ?_ | refine loopQ_exit ?_ | refine loopQ_ret ?_ | refine endQ_ret ?_ | refine endQ_norm ?_ | refine endE_ret ?_ | refine endE_norm ?_ | refine endI_ret ?_ | refine endI_norm ?_)
        | (with_reducible refine wp_regK fun K hK => ?_
           simp[hg2, he2, hlt, y4, hw, hd1, hd2, o2]
           repeat' (with_reducible first | refine hK _ ?_ | (refine psel ?_ ?_ <;> (intro hc; (try rw [Decidable.not_not] at hc); first | (exfalso; omega) | (try simp [hc, hg2, he2, hlt, y4, hw, hd1, hd2, o2]))))
           all_goals (clear hK; clear K))
        | (with_reducible refine wp_condE ?_
           refine ⟨_, rfl, ?_, ?_⟩ <;> (intro hc; (try simp at hc); (all_goals first | (exfalso; omega) | skip))))
      all_goals first | (simp [pf62, wholeF, ← h4]; done) | (exfalso; omega) | skip

@[simp] theorem t343 (k0 : Bool) (x_Next : Int) (x_L : List XSlot) (ts : Int) (h5 : x_L.length ≤ 1048576) (hs : XSlot.sms x_L) : Gw TT 343 [.st [.ro false (di x_Next), .ro k0 (.sl 2 (x_L.map XSlot.e))], vi ts] = some (vb (wholeF ts x_Next x_L), []) := by
  refine Gw_of (F := pf343) rfl rfl ?_
  show Wp _ pb343 _ _
  unfold pb343
  repeat' (first
    | with_reducible (first | refine wp_seq ?_ | refine wp_blk ?_ | refine wp_skip ?_ | refine wp_exit ?_ | refine wp_ret ?_ | refine seqQ_norm ?_ | refine seqQ_ret ?_ | refine seqQ_exit ?_ | refine blkQ_norm ?_ | refine blkQ_ret ?_ | refine blkQ_exit ?_ | refine loopQ_norm ?_ | refine loopQ_exit ?_ | refine loopQ_ret ?_ | refine endQ_ret ?_ | refine endQ_norm ?_ | refine endE_ret ?_ | refine endE_norm ?_ | refine endI_ret ?_ | refine endI_norm ?_)
    | (with_reducible refine wp_regK fun K hK => ?_
       simp
       repeat' (with_reducible first | refine hK _ ?_ | (refine psel ?_ ?_ <;> (intro hc; (try rw [Decidable.not_not] at hc); first | (exfalso; omega) | (try simp [hc]))))
       all_goals (clear hK; clear K))
    | (with_reducible refine wp_condE ?_
       refine ⟨_, rfl, ?_, ?_⟩ <;> (intro hc; (try simp at hc); (all_goals first | (exfalso; omega) | skip))))
  refine wp_loopI (σ := List XSlot × List XSlot) (fun s => [(1, AV.v false (di ts), none), (2, AV.bx 2 0, some (Rt.bx [.ro false (di x_Next), .ro k0 (.sl 2 (x_L.map XSlot.e))])), (5, AV.v false (di ((s.1.length : Nat) : Int)), none)]) (fun s => x_L = s.1 ++ s.2 ∧ allCame ts s.2 = allCame ts x_L) (fun s => s.2.length) ([], x_L) (by simp) ⟨rfl, rfl⟩ ?_
  rintro ⟨p2, r2⟩ ⟨h2, h4⟩
  simp only at h2 h4
  have y3 : x_L.length = p2.length + r2.length := by rw [h2, List.length_append]
  rcases r2 with _ | ⟨d, r2⟩
  · simp only [List.length_nil] at y3
    simp only [allCame] at h4
    have y4 : ¬ (p2.length : Int) < (x_L.length : Int) := by omega
    unfold pl343_0
    by_cases z : x_Next = (x_L.length : Int)
    · repeat' (first
        | with_reducible (first | refine wp_seq ?_ | refine wp_blk ?_ | refine wp_skip ?_ | refine wp_exit ?_ | refine wp_ret ?_ | refine seqQ_norm ?_ | refine seqQ_ret ?_ | refine seqQ_exit ?_ | refine blkQ_norm ?_ | refine blkQ_ret ?_ | refine blkQ_exit ?_ | refine loopQ_norm ?_ | refine loopQ_exit ?_ | refine loopQ_ret ?_ | refine endQ_ret ?_ | refine endQ_norm ?_ | refine endE_ret ?_ | refine endE_norm ?_ | refine endI_ret ?_ | refine endI_norm ?_)
        | (with_reducible refine wp_regK fun K hK => ?_
           simp[y4, z]
           repeat' (with_reducible first | refine hK _ ?_ | (refine psel ?_ ?_ <;> (intro hc; (try rw [Decidable.not_not] at hc); first | (exfalso; omega) | (try simp [hc, y4, z]))))
           all_goals (clear hK; clear K))
        | (with_reducible refine wp_condE ?_
           refine ⟨_, rfl, ?_, ?_⟩ <;> (intro hc; (try simp at hc); (all_goals first | (exfalso; omega) | skip))))
      all_goals first | (simp [pf343, wholeF, z, ← h4]; done) | (exfalso; omega) | skip
    · have z2 : (x_Next == (x_L.length : Int)) = false := by simpa using z
      repeat' (first
        | with_reducible (first | refine wp_seq ?_ | refine wp_blk ?_ | refine wp_skip ?_ | refine wp_exit ?_ | refine wp_ret ?_ | refine seqQ_norm ?_ | refine seqQ_ret ?_ | refine seqQ_exit ?_ | refine blkQ_norm ?_ | refine blkQ_ret ?_ | refine blkQ_exit ?_ | refine loopQ_norm ?_ | refine loopQ_exit ?_ | refine loopQ_ret ?_ | refine endQ_ret ?_ | refine endQ_norm ?_ | refine endE_ret ?_ | refine endE_norm ?_ | refine endI_ret ?_ | refine endI_norm ?_)
        | (with_reducible refine wp_regK fun K hK => ?_
           simp[y4, z, z2]
           repeat' (with_reducible first | refine hK _ ?_ | (refine psel ?_ ?_ <;> (intro hc; (try rw [Decidable.not_not] at hc); first | (exfalso; omega) | (try simp [hc, y4, z, z2]))))
           all_goals (clear hK; clear K))
        | (with_reducible refine wp_condE ?_
           refine ⟨_, rfl, ?_, ?_⟩ <;> (intro hc; (try simp at hc); (all_goals first | (exfalso; omega) | skip))))
      all_goals first | (simp [pf343, wholeF, z, ← h4]; done) | (exfalso; omega) | skip
  · simp only [List.length_cons] at y3
    have hd := hs d (by rw [h2]; simp)
    simp only [XSlot.sm] at hd
    obtain ⟨hd1, hd2⟩ := hd
    simp only [allCame] at h4
    have hg2 : x_L[p2.length]? = some d := by rw [h2]; simp
    obtain ⟨hlt, he2⟩ := List.getElem?_eq_some_iff.1 hg2
    have y4 : (p2.length : Int) < (x_L.length : Int) := by omega
    have hw : IntKind.wrap .i64 ((p2.length : Int) + 1) = (p2.length : Int) + 1 := wrap_i64 (by omega) (by omega)
    unfold pl343_0
    by_cases o : cameB d.Ins ts = true
    · rw [if_pos o] at h4
      repeat' (first
        | with_reducible (first | refine wp_seq ?_ | refine wp_blk ?_ | refine wp_skip ?_ | refine wp_exit ?_ | refine wp_ret ?_ | refine seqQ_norm ?_ | refine seqQ_ret ?_ | refine seqQ_exit ?_ | refine blkQ_norm ?_ | refine blkQ_ret ?_ | refine blkQ_exit ?_ | refine loopQ_norm ?_ | refine loopQ_exit ?_ | refine loopQ_ret ?_ | refine endQ_ret ?_ | refine endQ_norm ?_ | refine endE_ret ?_ | refine endE_norm ?_ | refine endI_ret ?_ | refine endI_norm ?_)
        | (with_reducible refine wp_regK fun K hK => ?_
           simp[hg2, he2, hlt, y4, hw, hd1, hd2, o]
           repeat' (with_reducible first | refine hK _ ?_ | (refine psel ?_ ?_ <;> (intro hc; (try rw [Decidable.not_not] at hc); first | (exfalso; omega) | (try simp [hc, hg2, he2, hlt, y4, hw, hd1, hd2, o]))))
           all_goals (clear hK; clear K))
        | (with_reducible refine wp_condE ?_
           refine ⟨_, rfl, ?_, ?_⟩ <;> (intro hc; (try simp at hc); (all_goals first | (exfalso; omega) | skip))))
      all_goals first | exact ⟨(p2 ++ [d], r2), by simp, ⟨by rw [h2]; simp, h4⟩, by simp⟩ | (exfalso; omega) | skip
    · rw [if_neg o] at h4
      have o2 : cameB d.Ins ts = false := by simpa using o
      repeat' (first
        | with_reducible (first | refine wp_seq ?_ | refine wp_blk ?_ | refine wp_skip ?_ | refine wp_exit ?_ | refine wp_ret ?_ | refine seqQ_norm ?_ | refine seqQ_ret ?_ | refine seqQ_exit ?_ | refine blkQ_norm ?_ | refine blkQ_ret ?_ | refine blkQ_exit ?_ | refine loopQ_norm ?_ | refine loopQ_exit ?_ | refine loopQ_ret ?_ | refine endQ_ret ?_ | refine endQ_norm ?_ | refine endE_ret ?_ | refine endE_norm ?_ | refine endI_ret ?_ | refine endI_norm ?_)
        | (with_reducible refine wp_regK fun K hK => ?_
           simp[hg2, he2, hlt, y4, hw, hd1, hd2, o2]
           repeat' (with_reducible first | refine hK _ ?_ | (refine psel ?_ ?_ <;> (intro hc; (try rw [Decidable.not_not] at hc); first | (exfalso; omega) | (try simp [hc, hg2, he2, hlt, y4, hw, hd1, hd2, o2]))))
           all_goals (clear hK; clear K))
        | (with_reducible refine wp_condE ?_
           refine ⟨_, rfl, ?_, ?_⟩ <;> (intro hc; (try simp at hc); (all_goals first | (exfalso; omega) | skip))))
      all_goals first | (simp [pf343, wholeF, ← h4]; done) | (exfalso; omega) | skip

@[simp] theorem t208 (k0 k1 : Bool) (l : List XRow) (h : l.length ≤ 1048576) (hs : XRow.sms l) : Gw TT 208 [.one (.ro k0 (.sl 2 (l.map XRow.e))), .one (.ro k1 (.sl 2 (l.map XRow.e)))] = some (vb true, []) := by
  refine Gw_of (F := pf208) rfl rfl ?_
  show Wp _ pb208 _ _
  unfold pb208
  repeat' (first
    | with_reducible (first | refine wp_seq ?_ | refine wp_blk ?_ | refine wp_skip ?_ | refine wp_exit ?_ | refine wp_ret ?_ | refine seqQ_norm ?_ | refine seqQ_ret ?_ | refine seqQ_exit ?_ | refine blkQ_norm ?_ | refine blkQ_ret ?_ | refine blkQ_exit ?_ | refine loopQ_norm ?_ | refine loopQ_exit ?_ | refine loopQ_ret ?_ | refine endQ_ret ?_ | refine endQ_norm ?_ | refine endE_ret ?_ | refine endE_norm ?_ | refine endI_ret ?_ | refine endI_norm ?_)
    | (with_reducible refine wp_regK fun K hK => ?_
       simp
       repeat' (with_reducible first | refine hK _ ?_ | (refine psel ?_ ?_ <;> (intro hc; (try rw [Decidable.not_not] at hc); first | (exfalso; omega) | (try simp [hc]))))
       all_goals (clear hK; clear K))
    | (with_reducible refine wp_condE ?_
       refine ⟨_, rfl, ?_, ?_⟩ <;> (intro hc; (try simp at hc); (all_goals first | (exfalso; omega) | skip))))
  refine wp_loopI (σ := List XRow × List XRow) (fun s => [(0, AV.v k0 (D.sl 2 (l.map XRow.e)), none), (1, AV.v k1 (D.sl 2 (l.map XRow.e)), none), (5, AV.v false (di ((s.1.length : Nat) : Int)), none)]) (fun s => l = s.1 ++ s.2) (fun s => s.2.length) ([], l) (by simp) rfl ?_
  rintro ⟨pre, rest⟩ h1
  simp only at h1
  subst h1
  simp only [List.length_append, List.length_cons] at h
  rcases rest with _ | ⟨d, rest⟩
  · unfold pl208_0
    repeat' (first
      | with_reducible (first | refine wp_seq ?_ | refine wp_blk ?_ | refine wp_skip ?_ | refine wp_exit ?_ | refine wp_ret ?_ | refine seqQ_norm ?_ | refine seqQ_ret ?_ | refine seqQ_exit ?_ | refine blkQ_norm ?_ | refine blkQ_ret ?_ | refine blkQ_exit ?_ | refine loopQ_norm ?_ | refine loopQ_exit ?_ | refine loopQ_ret ?_ | refine endQ_ret ?_ | refine endQ_norm ?_ | refine endE_ret ?_ | refine endE_norm ?_ | refine endI_ret ?_ | refine endI_norm ?_)
      | (with_reducible refine wp_regK fun K hK => ?_
         simp
         repeat' (with_reducible first | refine hK _ ?_ | (refine psel ?_ ?_ <;> (intro hc; (try rw [Decidable.not_not] at hc); first | (exfalso; omega) | (try simp [hc]))))
         all_goals (clear hK; clear K))
      | (with_reducible refine wp_condE ?_
         refine ⟨_, rfl, ?_, ?_⟩ <;> (intro hc; (try simp at hc); (all_goals first | (exfalso; omega) | skip))))
    all_goals first | (simp [pf208]; done) | (exfalso; omega)
  · unfold pl208_0
    simp only [List.length_cons] at h
    have hd := hs d (by simp)
    simp only [XRow.sm] at hd
    obtain ⟨hd1, hd2⟩ := hd
    have hw : IntKind.wrap .i64 ((pre.length : Int) + 1) = (pre.length : Int) + 1 := wrap_i64 (by omega) (by omega)
    have hlt : (pre.length : Int) < (pre.length : Int) + ((rest.length : Int) + 1) := by omega
    repeat' (first
      | with_reducible (first | refine wp_seq ?_ | refine wp_blk ?_ | refine wp_skip ?_ | refine wp_exit ?_ | refine wp_ret ?_ | refine seqQ_norm ?_ | refine seqQ_ret ?_ | refine seqQ_exit ?_ | refine blkQ_norm ?_ | refine blkQ_ret ?_ | refine blkQ_exit ?_ | refine loopQ_norm ?_ | refine loopQ_exit ?_ | refine loopQ_ret ?_ | refine endQ_ret ?_ | refine endQ_norm ?_ | refine endE_ret ?_ | refine endE_norm ?_ | refine endI_ret ?_ | refine endI_norm ?_)
      | (with_reducible refine wp_regK fun K hK => ?_
         simp[hw, hd1, hlt]
         repeat' (with_reducible first | refine hK _ ?_ | (refine psel ?_ ?_ <;> (intro hc; (try rw [Decidable.not_not] at hc); first | (exfalso; omega) | (try simp [hc, hw, hd1, hlt]))))
         all_goals (clear hK; clear K))
      | (with_reducible refine wp_condE ?_
         refine ⟨_, rfl, ?_, ?_⟩ <;> (intro hc; (try simp at hc); (all_goals first | (exfalso; omega) | skip))))
    all_goals first | exact ⟨(pre ++ [d], rest), by simp, by simp, by simp⟩ | (exfalso; omega) | skip

theorem e274_ex (b : List Int) (hb : b.length ≤ 1048576) : ∃ r : Int, Gw TT 274 [.one (.ro false (.sl 1 (b.map eb)))] = some (vi r, []) ∧ (True) := by
  suffices h0 : ∃ y, Gw TT 274 [.one (.ro false (.sl 1 (b.map eb)))] = some y ∧ ∃ r : Int, y = (vi r, []) ∧ (True) by
    obtain ⟨y, h1, r, rfl, h2⟩ := h0
    exact ⟨r, h1, h2⟩
  refine Gw_ofE (F := pf274) rfl rfl ?_
  show Wp _ pb274 _ _
  unfold pb274
  repeat' (first
    | with_reducible (first | refine wp_seq ?_ | refine wp_blk ?_ | refine wp_skip ?_ | refine wp_exit ?_ | refine wp_ret ?_ | refine seqQ_norm ?_ | refine seqQ_ret ?_ | refine seqQ_exit ?_ | refine blkQ_norm ?_ | refine blkQ_ret ?_ | refine blkQ_exit ?_ | refine loopQ_norm ?_ | refine loopQ_exit ?_ | refine loopQ_ret ?_ | refine endQ_ret ?_ | refine endQ_norm ?_ | refine endE_ret ?_ | refine endE_norm ?_ | refine endI_ret ?_ | refine endI_norm ?_)
    | (with_reducible refine wp_regK fun K hK => ?_
       simp[hb]
       repeat' (with_reducible first | refine hK _ ?_ | (refine psel ?_ ?_ <;> (intro hc; (try rw [Decidable.not_not] at hc); first | (exfalso; omega) | (try simp [hc, hb]))))
       all_goals (clear hK; clear K))
    | (with_reducible refine wp_condE ?_
       refine ⟨_, rfl, ?_, ?_⟩ <;> (intro hc; (try simp at hc); (all_goals first | (exfalso; omega) | skip))))
  all_goals first | (exfalso; omega) | (refine ⟨_, by simp [pf274]; rfl, ?_⟩; exact ⟨_, rfl, trivial⟩) | skip

theorem e275_ex (b : List Int) (hb : b.length ≤ 1048576) : ∃ r : List Int × XChunk, Gw TT 275 [.one (.ro false (.sl 1 (b.map eb)))] = some (.tup [.one (.own (.sl 1 (r.1.map ei))), .st [.ro false (di r.2.Next), .own (.sl 2 (r.2.L.map XSlot.e))]], []) ∧ (r.1.length ≤ 1000 ∧ r.2.L.length ≤ 6 ∧ XSlot.sms r.2.L) := by
  suffices h0 : ∃ y, Gw TT 275 [.one (.ro false (.sl 1 (b.map eb)))] = some y ∧ ∃ r : List Int × XChunk, y = (.tup [.one (.own (.sl 1 (r.1.map ei))), .st [.ro false (di r.2.Next), .own (.sl 2 (r.2.L.map XSlot.e))]], []) ∧ (r.1.length ≤ 1000 ∧ r.2.L.length ≤ 6 ∧ XSlot.sms r.2.L) by
    obtain ⟨y, h1, r, rfl, h2⟩ := h0
    exact ⟨r, h1, h2⟩
  refine Gw_ofE (F := pf275) rfl rfl ?_
  show Wp _ pb275 _ _
  unfold pb275
  have qc := p399 (newC b hb)
  obtain ⟨⟨cols, c1⟩, hcols⟩ : ∃ r, d399 (newC b hb) = r := ⟨_, rfl⟩
  rw [hcols] at qc
  simp only at qc
  have hc3 : cols.length ≤ 1000 := by omega
  have qa := p358 c1 true cols hc3
  obtain ⟨⟨x, c2⟩, hx⟩ : ∃ r, d358 c1 true cols hc3 = r := ⟨_, rfl⟩
  rw [hx] at qa
  obtain ⟨nx, l⟩ := x
  simp only at qa
  obtain ⟨qa1, qa2⟩ := qa
  have hl1 : l.length ≤ 1048576 := by omega
  repeat' (first
    | with_reducible (first | refine wp_seq ?_ | refine wp_blk ?_ | refine wp_skip ?_ | refine wp_exit ?_ | refine wp_ret ?_ | refine seqQ_norm ?_ | refine seqQ_ret ?_ | refine seqQ_exit ?_ | refine blkQ_norm ?_ | refine blkQ_ret ?_ | refine blkQ_exit ?_ | refine loopQ_norm ?_ | refine loopQ_exit ?_ | refine loopQ_ret ?_ | refine endQ_ret ?_ | refine endQ_norm ?_ | refine endE_ret ?_ | refine endE_norm ?_ | refine endI_ret ?_ | refine endI_norm ?_)
    | (with_reducible refine wp_regK fun K hK => ?_
       simp[hb, hcols, hc3, hx]
       repeat' (with_reducible first | refine hK _ ?_ | (refine psel ?_ ?_ <;> (intro hc; (try rw [Decidable.not_not] at hc); first | (exfalso; omega) | (try simp [hc, hb, hcols, hc3, hx]))))
       all_goals (clear hK; clear K))
    | (with_reducible refine wp_condE ?_
       refine ⟨_, rfl, ?_, ?_⟩ <;> (intro hc; (try simp at hc); (all_goals first | (exfalso; omega) | skip))))
  all_goals first | (exfalso; omega) | (refine ⟨_, by simp [pf275]; rfl, ?_⟩; refine ⟨(cols, (⟨nx, l⟩ : XChunk)), ?_, ?_, ?_, ?_⟩; (focus (first | (simp; done) | (simp [*]; done))); (focus (exact hc3)); (focus (simp only; omega)); (focus (exact qa2))) | skip

theorem e290_ex (b : List Int) (hb : b.length ≤ 1048576) : ∃ r : XChunk × Int × Int, Gw TT 290 [.one (.ro false (.sl 1 (b.map eb)))] = some (.tup [.st [.ro false (di r.1.Next), .own (.sl 2 (r.1.L.map XSlot.e))], vi r.2.1, vi r.2.2], []) ∧ (r.1.L.length ≤ 6 ∧ XSlot.sms r.1.L) := by
  suffices h0 : ∃ y, Gw TT 290 [.one (.ro false (.sl 1 (b.map eb)))] = some y ∧ ∃ r : XChunk × Int × Int, y = (.tup [.st [.ro false (di r.1.Next), .own (.sl 2 (r.1.L.map XSlot.e))], vi r.2.1, vi r.2.2], []) ∧ (r.1.L.length ≤ 6 ∧ XSlot.sms r.1.L) by
    obtain ⟨y, h1, r, rfl, h2⟩ := h0
    exact ⟨r, h1, h2⟩
  refine Gw_ofE (F := pf290) rfl rfl ?_
  show Wp _ pb290 _ _
  unfold pb290
  have qc := p399 (newC b hb)
  obtain ⟨⟨cols, c1⟩, hcols⟩ : ∃ r, d399 (newC b hb) = r := ⟨_, rfl⟩
  rw [hcols] at qc
  simp only at qc
  have hc3 : cols.length ≤ 1000 := by omega
  have qa := p358 c1 true cols hc3
  obtain ⟨⟨x, c2⟩, hx⟩ : ∃ r, d358 c1 true cols hc3 = r := ⟨_, rfl⟩
  rw [hx] at qa
  obtain ⟨nx, l⟩ := x
  simp only at qa
  obtain ⟨qa1, qa2⟩ := qa
  have hl1 : l.length ≤ 1048576 := by omega
  repeat' (first
    | with_reducible (first | refine wp_seq ?_ | refine wp_blk ?_ | refine wp_skip ?_ | refine wp_exit ?_ | refine wp_ret ?_ | refine seqQ_norm ?_ | refine seqQ_ret ?_ | refine seqQ_exit ?_ | refine blkQ_norm ?_ | refine blkQ_ret ?_ | refine blkQ_exit ?_ | refine loopQ_norm ?_ | refine loopQ_exit ?_ | refine loopQ_ret ?_ | refine endQ_ret ?_ | refine endQ_norm ?_ | refine endE_ret ?_ | refine endE_norm ?_ | refine endI_ret ?_ | refine endI_norm ?_)
    | (with_reducible refine wp_regK fun K hK => ?_
       simp[hb, hcols, hc3, hx]
       repeat' (with_reducible first | refine hK _ ?_ | (refine psel ?_ ?_ <;> (intro hc; (try rw [Decidable.not_not] at hc); first | (exfalso; omega) | (try simp [hc, hb, hcols, hc3, hx]))))
       all_goals (clear hK; clear K))
    | (with_reducible refine wp_condE ?_
       refine ⟨_, rfl, ?_, ?_⟩ <;> (intro hc; (try simp at hc); (all_goals first | (exfalso; omega) | skip))))
  all_goals first | (exfalso; omega) | (refine ⟨_, by simp [pf290]; rfl, ?_⟩; refine ⟨((⟨nx, l⟩ : XChunk), IntKind.wrap .i64 ((d375 c2 6).1 - 1), (d375 (d375 c2 6).2 6).1), ?_, ?_, ?_⟩; (focus (first | (simp; done) | (simp [*]; done))); (focus (simp only; omega)); (focus (exact qa2))) | skip

theorem e288_ex (b : List Int) (hb : b.length ≤ 1048576) : ∃ r : XChunk × Int × Int, Gw TT 288 [.one (.ro false (.sl 1 (b.map eb)))] = some (.tup [.st [.ro false (di r.1.Next), .own (.sl 2 (r.1.L.map XSlot.e))], vi r.2.1, vi r.2.2], []) ∧ (r.1.L.length ≤ 6 ∧ XSlot.sms r.1.L) := by
  suffices h0 : ∃ y, Gw TT 288 [.one (.ro false (.sl 1 (b.map eb)))] = some y ∧ ∃ r : XChunk × Int × Int, y = (.tup [.st [.ro false (di r.1.Next), .own (.sl 2 (r.1.L.map XSlot.e))], vi r.2.1, vi r.2.2], []) ∧ (r.1.L.length ≤ 6 ∧ XSlot.sms r.1.L) by
    obtain ⟨y, h1, r, rfl, h2⟩ := h0
    exact ⟨r, h1, h2⟩
  refine Gw_ofE (F := pf288) rfl rfl ?_
  show Wp _ pb288 _ _
  unfold pb288
  have qc := p399 (newC b hb)
  obtain ⟨⟨cols, c1⟩, hcols⟩ : ∃ r, d399 (newC b hb) = r := ⟨_, rfl⟩
  rw [hcols] at qc
  simp only at qc
  have hc3 : cols.length ≤ 1000 := by omega
  have qa := p358 c1 true cols hc3
  obtain ⟨⟨x, c2⟩, hx⟩ : ∃ r, d358 c1 true cols hc3 = r := ⟨_, rfl⟩
  rw [hx] at qa
  obtain ⟨nx, l⟩ := x
  simp only at qa
  obtain ⟨qa1, qa2⟩ := qa
  have hl1 : l.length ≤ 1048576 := by omega
  repeat' (first
    | with_reducible (first | refine wp_seq ?_ | refine wp_blk ?_ | refine wp_skip ?_ | refine wp_exit ?_ | refine wp_ret ?_ | refine seqQ_norm ?_ | refine seqQ_ret ?_ | refine seqQ_exit ?_ | refine blkQ_norm ?_ | refine blkQ_ret ?_ | refine blkQ_exit ?_ | refine loopQ_norm ?_ | refine loopQ_exit ?_ | refine loopQ_ret ?_ | refine endQ_ret ?_ | refine endQ_norm ?_ | refine endE_ret ?_ | refine endE_norm ?_ | refine endI_ret ?_ | refine endI_norm ?_)
    | (with_reducible refine wp_regK fun K hK => ?_
       simp[hb, hcols, hc3, hx]
       repeat' (with_reducible first | refine hK _ ?_ | (refine psel ?_ ?_ <;> (intro hc; (try rw [Decidable.not_not] at hc); first | (exfalso; omega) | (try simp [hc, hb, hcols, hc3, hx]))))
       all_goals (clear hK; clear K))
    | (with_reducible refine wp_condE ?_
       refine ⟨_, rfl, ?_, ?_⟩ <;> (intro hc; (try simp at hc); (all_goals first | (exfalso; omega) | skip))))
  all_goals first | (exfalso; omega) | (refine ⟨_, by simp [pf288]; rfl, ?_⟩; refine ⟨((⟨nx, l⟩ : XChunk), (d375 c2 20).1, IntKind.wrap .i64 ((d375 (d375 c2 20).2 8).1 - 1)), ?_, ?_, ?_⟩; (focus (first | (simp; done) | (simp [*]; done))); (focus (simp only; omega)); (focus (exact qa2))) | skip

theorem e293_ex (b : List Int) (hb : b.length ≤ 1048576) : ∃ r : XChunk × Int, Gw TT 293 [.one (.ro false (.sl 1 (b.map eb)))] = some (.tup [.st [.ro false (di r.1.Next), .own (.sl 2 (r.1.L.map XSlot.e))], vi r.2], []) ∧ (r.1.L.length ≤ 6 ∧ XSlot.sms r.1.L) := by
  suffices h0 : ∃ y, Gw TT 293 [.one (.ro false (.sl 1 (b.map eb)))] = some y ∧ ∃ r : XChunk × Int, y = (.tup [.st [.ro false (di r.1.Next), .own (.sl 2 (r.1.L.map XSlot.e))], vi r.2], []) ∧ (r.1.L.length ≤ 6 ∧ XSlot.sms r.1.L) by
    obtain ⟨y, h1, r, rfl, h2⟩ := h0
    exact ⟨r, h1, h2⟩
  refine Gw_ofE (F := pf293) rfl rfl ?_
  show Wp _ pb293 _ _
  unfold pb293
  have qc := p399 (newC b hb)
  obtain ⟨⟨cols, c1⟩, hcols⟩ : ∃ r, d399 (newC b hb) = r := ⟨_, rfl⟩
  rw [hcols] at qc
  simp only at qc
  have hc3 : cols.length ≤ 1000 := by omega
  by_cases o : (d382 c1 2).1 = true
  · repeat' (first
      | with_reducible (first | refine wp_seq ?_ | refine wp_blk ?_ | refine wp_skip ?_ | refine wp_exit ?_ | refine wp_ret ?_ | refine seqQ_norm ?_ | refine seqQ_ret ?_ | refine seqQ_exit ?_ | refine blkQ_norm ?_ | refine blkQ_ret ?_ | refine blkQ_exit ?_ | refine loopQ_norm ?_ | refine loopQ_exit ?_ | refine loopQ_ret ?_ | refine endQ_ret ?_ | refine endQ_norm ?_ | refine endE_ret ?_ | refine endE_norm ?_ | refine endI_ret ?_ | refine endI_norm ?_)
      | (with_reducible refine wp_regK fun K hK => ?_
         simp[hb, hcols, hc3, o]
         repeat' (with_reducible first | refine hK _ ?_ | (refine psel ?_ ?_ <;> (intro hc; (try rw [Decidable.not_not] at hc); first | (exfalso; omega) | (try simp [hc, hb, hcols, hc3, o]))))
         all_goals (clear hK; clear K))
      | (with_reducible refine wp_condE ?_
         refine ⟨_, rfl, ?_, ?_⟩ <;> (intro hc; (try simp at hc); (all_goals first | (exfalso; omega) | skip))))
    refine wp_loopI (σ := Nat × XChunk × XCur) (fun s => [(2, AV.bx 2 0, some (Rt.bx [.ro false (di 0), .own (.sl 2 [])])), (4, AV.bx 4 0, some (Rt.bx [.ro false (.sl 1 (s.2.2.b.map eb)), .ro false (di (s.2.2.i : Nat)), .ro false (di s.2.2.h)])), (5, AV.pl 5 0 [], some (Rt.vir [C.own (D.sl 1 (List.map ei cols))])), (6, AV.bx 6 0, some (Rt.bx [.ro false (di s.2.1.Next), .own (.sl 2 (s.2.1.L.map XSlot.e))])), (7, AV.v false (di (s.1 : Nat)), none)]) (fun s => s.1 ≤ s.2.1.L.length ∧ 1 ≤ s.2.1.L.length ∧ s.2.1.L.length ≤ 4 ∧ XSlot.sms s.2.1.L) (fun s => s.2.1.L.length - s.1) (0, ⟨0, (chunkNewF (IntKind.wrap .i64 (1 + (d375 (d382 c1 2).2 4).1)))⟩, (d375 (d382 c1 2).2 4).2) (by simp) ⟨Nat.zero_le _, (chunkNewF_len _).1, (chunkNewF_len _).2, chunkNewF_sms _⟩ ?_
    rintro ⟨n, x, c2⟩ ⟨h1, h2, h3, h4⟩
    simp only at h1 h2 h3 h4
    have hl1 : x.L.length ≤ 1048576 := by omega
    unfold pl293_0
    by_cases hn : n < x.L.length
    · have hn2 : (n : Int) < (x.L.length : Int) := by omega
      have hwn : IntKind.wrap .i64 ((n : Int) + 1) = (n : Int) + 1 := wrap_i64 (by omega) (by omega)
      have pv := p401 c2 true cols hc3
      have v1 : (d401 c2 true cols hc3).1.length ≤ 1048576 := by omega
      have v2 := pv.2
      have w1 : (wrL (resN x.Next x.L) (n : Int) (d401 c2 true cols hc3).1 x.L).length ≤ 1048576 := by rw [wrL_len]; omega
      have w2 : XSlot.sms (wrL (resN x.Next x.L) (n : Int) (d401 c2 true cols hc3).1 x.L) := wrL_sms _ _ _ _ h4 v1 v2
      have s1 : (stSlotL (n : Int) (IntKind.wrap .i64 (1 + (d375 (d401 c2 true cols hc3).2 4).1)) (wrL (resN x.Next x.L) (n : Int) (d401 c2 true cols hc3).1 x.L)).length = x.L.length := by rw [stSlotL_len, wrL_len]
      have s2 : XSlot.sms (stSlotL (n : Int) (IntKind.wrap .i64 (1 + (d375 (d401 c2 true cols hc3).2 4).1)) (wrL (resN x.Next x.L) (n : Int) (d401 c2 true cols hc3).1 x.L)) := stSlotL_sms _ _ _ w2
      repeat' (first
        | with_reducible (first | refine wp_seq ?_ | refine wp_blk ?_ | refine wp_skip ?_ | refine wp_exit ?_ | refine wp_ret ?_ | refine seqQ_norm ?_ | refine seqQ_ret ?_ | refine seqQ_exit ?_ | refine blkQ_norm ?_ | refine blkQ_ret ?_ | refine blkQ_exit ?_ | refine loopQ_norm ?_ | refine loopQ_exit ?_ | refine loopQ_ret ?_ | refine endQ_ret ?_ | refine endQ_norm ?_ | refine endE_ret ?_ | refine endE_norm ?_ | refine endI_ret ?_ | refine endI_norm ?_)
        | (with_reducible refine wp_regK fun K hK => ?_
           simp[hwn, hn, hn2, hc3, hl1, h4, v1, v2, w1, w2]
           repeat' (with_reducible first | refine hK _ ?_ | (refine psel ?_ ?_ <;> (intro hc; (try rw [Decidable.not_not] at hc); first | (exfalso; omega) | (try simp [hc, hwn, hn, hn2, hc3, hl1, h4, v1, v2, w1, w2]))))
           all_goals (clear hK; clear K))
        | (with_reducible refine wp_condE ?_
           refine ⟨_, rfl, ?_, ?_⟩ <;> (intro hc; (try simp at hc); (all_goals first | (exfalso; omega) | skip))))
      all_goals first | (exfalso; omega) | (refine ⟨(n + 1, ⟨(resN x.Next x.L), (stSlotL (n : Int) (IntKind.wrap .i64 (1 + (d375 (d401 c2 true cols hc3).2 4).1)) (wrL (resN x.Next x.L) (n : Int) (d401 c2 true cols hc3).1 x.L))⟩, (d375 (d401 c2 true cols hc3).2 4).2), ?_, ⟨?_, ?_, ?_, ?_⟩, ?_⟩; (focus (first | (simp; done) | (simp [hwn]; done) | (simp [*]; done))); (focus (simp only; omega)); (focus (simp only; omega)); (focus (simp only; omega)); (focus (exact s2)); (focus (simp only; omega))) | skip
    · have hn2 : ¬ (n : Int) < (x.L.length : Int) := by omega
      repeat' (first
        | with_reducible (first | refine wp_seq ?_ | refine wp_blk ?_ | refine wp_skip ?_ | refine wp_exit ?_ | refine wp_ret ?_ | refine seqQ_norm ?_ | refine seqQ_ret ?_ | refine seqQ_exit ?_ | refine blkQ_norm ?_ | refine blkQ_ret ?_ | refine blkQ_exit ?_ | refine loopQ_norm ?_ | refine loopQ_exit ?_ | refine loopQ_ret ?_ | refine endQ_ret ?_ | refine endQ_norm ?_ | refine endE_ret ?_ | refine endE_norm ?_ | refine endI_ret ?_ | refine endI_norm ?_)
        | (with_reducible refine wp_regK fun K hK => ?_
           simp[hn, hn2]
           repeat' (with_reducible first | refine hK _ ?_ | (refine psel ?_ ?_ <;> (intro hc; (try rw [Decidable.not_not] at hc); first | (exfalso; omega) | (try simp [hc, hn, hn2]))))
           all_goals (clear hK; clear K))
        | (with_reducible refine wp_condE ?_
           refine ⟨_, rfl, ?_, ?_⟩ <;> (intro hc; (try simp at hc); (all_goals first | (exfalso; omega) | skip))))
      all_goals first | (exfalso; omega) | (refine ⟨_, by simp [pf293]; rfl, ?_⟩; refine ⟨(x, (d375 c2 6).1), ?_, ?_, ?_⟩; (focus (first | (simp; done) | (simp [*]; done))); (focus (simp only; omega)); (focus (exact h4))) | skip
  · have o2 : (d382 c1 2).1 = false := by simpa using o
    have qa := p358 (d382 c1 2).2 true cols hc3
    obtain ⟨⟨x, c2⟩, hx⟩ : ∃ r, d358 (d382 c1 2).2 true cols hc3 = r := ⟨_, rfl⟩
    rw [hx] at qa
    obtain ⟨nx, l⟩ := x
    simp only at qa
    obtain ⟨qa1, qa2⟩ := qa
    have hl1 : l.length ≤ 1048576 := by omega
    repeat' (first
      | with_reducible (first | refine wp_seq ?_ | refine wp_blk ?_ | refine wp_skip ?_ | refine wp_exit ?_ | refine wp_ret ?_ | refine seqQ_norm ?_ | refine seqQ_ret ?_ | refine seqQ_exit ?_ | refine blkQ_norm ?_ | refine blkQ_ret ?_ | refine blkQ_exit ?_ | refine loopQ_norm ?_ | refine loopQ_exit ?_ | refine loopQ_ret ?_ | refine endQ_ret ?_ | refine endQ_norm ?_ | refine endE_ret ?_ | refine endE_norm ?_ | refine endI_ret ?_ | refine endI_norm ?_)
      | (with_reducible refine wp_regK fun K hK => ?_
         simp[hb, hcols, hc3, hx, o2]
         repeat' (with_reducible first | refine hK _ ?_ | (refine psel ?_ ?_ <;> (intro hc; (try rw [Decidable.not_not] at hc); first | (exfalso; omega) | (try simp [hc, hb, hcols, hc3, hx, o2]))))
         all_goals (clear hK; clear K))
      | (with_reducible refine wp_condE ?_
         refine ⟨_, rfl, ?_, ?_⟩ <;> (intro hc; (try simp at hc); (all_goals first | (exfalso; omega) | skip))))
    all_goals first | (exfalso; omega) | (refine ⟨_, by simp [pf293]; rfl, ?_⟩; refine ⟨((⟨nx, l⟩ : XChunk), (d375 c2 8).1), ?_, ?_, ?_⟩; (focus (first | (simp; done) | (simp [*]; done))); (focus (simp only; omega)); (focus (exact qa2))) | skip

theorem chunkOk_new (cols : List Int) : chunkOkF cols 0 (chunkNewF 2) = true := by
  have h : chunkNewF 2 = [⟨0, []⟩, ⟨0, []⟩] := by simp [chunkNewF]
  rw [h]
  simp [chunkOkF, slotsF, okSlot]

theorem t140 (code : List Int) (hok_code : code.length ≤ 9223372036854775807) : Gw TT 140 [.one (.ro false (.sl 1 (code.map eb)))] = some (vb true, []) := by
  refine Gw_of (F := pf140) rfl rfl ?_
  show Wp _ pb140 _ _
  unfold pb140
  by_cases hb : code.length ≤ 1048576
  · have hbg : ¬ (1048576 < (code.length : Int)) := by omega
    obtain ⟨⟨⟨cn, cl⟩, ts⟩, g1, c1, s1⟩ := e293_ex code hb
    obtain ⟨⟨⟨sn, sl⟩, i, st⟩, g2, c2, s2⟩ := e290_ex code hb
    obtain ⟨⟨⟨rn, rl⟩, fi, tt⟩, g3, c3, s3⟩ := e288_ex code hb
    obtain ⟨⟨cols, ⟨on, ol⟩⟩, g4, c4, d4, s4⟩ := e275_ex code hb
    obtain ⟨nn, g5, _⟩ := e274_ex code hb
    simp only at g1 c1 s1 g2 c2 s2 g3 c3 s3 g4 c4 d4 s4 g5
    have b1 : cl.length ≤ 1048576 := by omega
    have b2 : sl.length ≤ 1048576 := by omega
    have b3 : rl.length ≤ 1048576 := by omega
    have b4 : ol.length ≤ 1048576 := by omega
    have u0 := stSlotL_len i st sl
    have u1 : (stSlotL i st sl).length ≤ 1048576 := by omega
    have u2 := stSlotL_sms i st sl s2
    have u0 := rowsOfF_len fi tt rl 0
    have u3 : (rowsOfF fi tt 0 rl).length ≤ 1048576 := by omega
    have u4 := rowsOfF_sms fi tt rl 0 s3
    have w0 := chunkNewF_len nn
    have u5 : (chunkNewF nn).length ≤ 1048576 := by omega
    have u6 := chunkNewF_sms nn
    have w1 := chunkNewF_len 2
    have u7 : (chunkNewF 2).length ≤ 1048576 := by omega
    have v1 := chunkNewF_sms 2
    have v2 := chunkOk_new cols
    have hc4 : cols.length ≤ 1048576 := by omega
    have ra := rowsOfF_all ts cl 0
    have rb := rowsOfF_len 0 ts cl 0
    cases hA : allCame ts cl with
    | false =>
      rw [hA] at ra
      have rc : ¬ (rowsOfF 0 ts 0 cl).length = cl.length := by simpa using ra
      have rd : ¬ ((rowsOfF 0 ts 0 cl).length : Int) = (cl.length : Int) := by omega
      have hW : wholeF ts cn cl = false := by simp [wholeF, hA]
      repeat' (first
        | with_reducible (first | refine wp_seq ?_ | refine wp_blk ?_ | refine wp_skip ?_ | refine wp_exit ?_ | refine wp_ret ?_ | refine seqQ_norm ?_ | refine seqQ_ret ?_ | refine seqQ_exit ?_ | refine blkQ_norm ?_ | refine blkQ_ret ?_ | refine blkQ_exit ?_ | refine loopQ_norm ?_ | refine loopQ_exit ?_ | refine loopQ_ret ?_ | refine endQ_ret ?_ | refine endQ_norm ?_ | refine endE_ret ?_ | refine endE_norm ?_ | refine endI_ret ?_ | refine endI_norm ?_)
        | (with_reducible refine wp_regK fun K hK => ?_
           simp[hok_code, hbg, g1, g2, g3, g4, g5, b1, b2, b3, b4, s1, s2, s3, s4, u1, u2, u3, u4, u5, u6, u7, v1, v2, hc4, rc, rd, hW]
           repeat' (with_reducible first | refine hK _ ?_ | (refine psel ?_ ?_ <;> (intro hc; (try rw [Decidable.not_not] at hc); first | (exfalso; omega) | (try simp [hc, hok_code, hbg, g1, g2, g3, g4, g5, b1, b2, b3, b4, s1, s2, s3, s4, u1, u2, u3, u4, u5, u6, u7, v1, v2, hc4, rc, rd, hW]))))
           all_goals (clear hK; clear K))
        | (with_reducible refine wp_condE ?_
           refine ⟨_, rfl, ?_, ?_⟩ <;> (intro hc; (try simp at hc); (all_goals first | (exfalso; omega) | skip))))
      all_goals first | (simp [pf140]; done) | (exfalso; omega) | skip
    | true =>
      rw [hA] at ra
      have rc : (rowsOfF 0 ts 0 cl).length = cl.length := by simpa using ra
      by_cases z : cn = (cl.length : Int)
      · have hW : wholeF ts cn cl = true := by simp [wholeF, hA, z]
        subst z
        repeat' (first
          | with_reducible (first | refine wp_seq ?_ | refine wp_blk ?_ | refine wp_skip ?_ | refine wp_exit ?_ | refine wp_ret ?_ | refine seqQ_norm ?_ | refine seqQ_ret ?_ | refine seqQ_exit ?_ | refine blkQ_norm ?_ | refine blkQ_ret ?_ | refine blkQ_exit ?_ | refine loopQ_norm ?_ | refine loopQ_exit ?_ | refine loopQ_ret ?_ | refine endQ_ret ?_ | refine endQ_norm ?_ | refine endE_ret ?_ | refine endE_norm ?_ | refine endI_ret ?_ | refine endI_norm ?_)
          | (with_reducible refine wp_regK fun K hK => ?_
             simp[hok_code, hbg, g1, g2, g3, g4, g5, b1, b2, b3, b4, s1, s2, s3, s4, u1, u2, u3, u4, u5, u6, u7, v1, v2, hc4, rc, hW]
             repeat' (with_reducible first | refine hK _ ?_ | (refine psel ?_ ?_ <;> (intro hc; (try rw [Decidable.not_not] at hc); first | (exfalso; omega) | (try simp [hc, hok_code, hbg, g1, g2, g3, g4, g5, b1, b2, b3, b4, s1, s2, s3, s4, u1, u2, u3, u4, u5, u6, u7, v1, v2, hc4, rc, hW]))))
             all_goals (clear hK; clear K))
          | (with_reducible refine wp_condE ?_
             refine ⟨_, rfl, ?_, ?_⟩ <;> (intro hc; (try simp at hc); (all_goals first | (exfalso; omega) | skip))))
        all_goals first | (simp [pf140]; done) | (exfalso; omega) | skip
      · have hW : wholeF ts cn cl = false := by simp [wholeF, hA, z]
        have z2 : (cn == (cl.length : Int)) = false := by simpa using z
        repeat' (first
          | with_reducible (first | refine wp_seq ?_ | refine wp_blk ?_ | refine wp_skip ?_ | refine wp_exit ?_ | refine wp_ret ?_ | refine seqQ_norm ?_ | refine seqQ_ret ?_ | refine seqQ_exit ?_ | refine blkQ_norm ?_ | refine blkQ_ret ?_ | refine blkQ_exit ?_ | refine loopQ_norm ?_ | refine loopQ_exit ?_ | refine loopQ_ret ?_ | refine endQ_ret ?_ | refine endQ_norm ?_ | refine endE_ret ?_ | refine endE_norm ?_ | refine endI_ret ?_ | refine endI_norm ?_)
          | (with_reducible refine wp_regK fun K hK => ?_
             simp[hok_code, hbg, g1, g2, g3, g4, g5, b1, b2, b3, b4, s1, s2, s3, s4, u1, u2, u3, u4, u5, u6, u7, v1, v2, hc4, rc, z, z2, hW]
             repeat' (with_reducible first | refine hK _ ?_ | (refine psel ?_ ?_ <;> (intro hc; (try rw [Decidable.not_not] at hc); first | (exfalso; omega) | (try simp [hc, hok_code, hbg, g1, g2, g3, g4, g5, b1, b2, b3, b4, s1, s2, s3, s4, u1, u2, u3, u4, u5, u6, u7, v1, v2, hc4, rc, z, z2, hW]))))
             all_goals (clear hK; clear K))
          | (with_reducible refine wp_condE ?_
             refine ⟨_, rfl, ?_, ?_⟩ <;> (intro hc; (try simp at hc); (all_goals first | (exfalso; omega) | skip))))
        all_goals first | (simp [pf140]; done) | (exfalso; omega) | skip
  · have hbg : 1048576 < (code.length : Int) := by omega
    repeat' (first
      | with_reducible (first | refine wp_seq ?_ | refine wp_blk ?_ | refine wp_skip ?_ | refine wp_exit ?_ | refine wp_ret ?_ | refine seqQ_norm ?_ | refine seqQ_ret ?_ | refine seqQ_exit ?_ | refine blkQ_norm ?_ | refine blkQ_ret ?_ | refine blkQ_exit ?_ | refine loopQ_norm ?_ | refine loopQ_exit ?_ | refine loopQ_ret ?_ | refine endQ_ret ?_ | refine endQ_norm ?_ | refine endE_ret ?_ | refine endE_norm ?_ | refine endI_ret ?_ | refine endI_norm ?_)
      | (with_reducible refine wp_regK fun K hK => ?_
         simp[hok_code, hbg]
         repeat' (with_reducible first | refine hK _ ?_ | (refine psel ?_ ?_ <;> (intro hc; (try rw [Decidable.not_not] at hc); first | (exfalso; omega) | (try simp [hc, hok_code, hbg]))))
         all_goals (clear hK; clear K))
      | (with_reducible refine wp_condE ?_
         refine ⟨_, rfl, ?_, ?_⟩ <;> (intro hc; (try simp at hc); (all_goals first | (exfalso; omega) | skip))))
    all_goals first | (simp [pf140]; done) | (exfalso; omega)

end Go.Proofs.Ytkgibccknlbiaaa.OM
