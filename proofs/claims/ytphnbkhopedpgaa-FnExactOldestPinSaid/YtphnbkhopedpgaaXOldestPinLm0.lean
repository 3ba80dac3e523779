/- What the functions answer. -/
import Derived.Test.YtphnbkhopedpgaaOMTypes
import Derived.Test.YtphnbkhopedpgaaOMTac2
import Derived.Test.YtphnbkhopedpgaaXOldestPinPc0
set_option linter.all false
namespace Go.Proofs.Ytphnbkhopedpgaa.OM
set_option maxHeartbeats 4000000
set_option maxRecDepth 100000

def tab : List (Nat × PF) := [(33, pf33), (114, pf114), (152, pf152), (244, pf244), (314, pf314)]
def TT (k : Nat) : Option PF := tab.lookup k

@[simp] theorem t244 (k0 : Bool) (l : List Int) (h : l.length ≤ 1048576)  : Gw TT 244 [.one (.ro k0 (.sl 1 (l.map ei)))] = some (.one (.own (.sl 1 (l.map ei))), []) := by
  refine Gw_of (F := pf244) rfl rfl ?_
  show Wp _ pb244 _ _
  unfold pb244
  repeat' (first
    | with_reducible (first | refine wp_seq ?_ | refine wp_blk ?_ | refine wp_skip ?_ | refine wp_exit ?_ | refine wp_ret ?_ | refine seqQ_norm ?_ | refine seqQ_ret ?_ | refine seqQ_exit ?_ | refine blkQ_norm ?_ | refine blkQ_ret ?_ | refine blkQ_exit ?_ | refine loopQ_norm ?_ | refine loopQ_exit ?_ | refine loopQ_ret ?_ | refine endQ_ret ?_ | refine endQ_norm ?_ | refine endE_ret ?_ | refine endE_norm ?_ | refine endI_ret ?_ | refine endI_norm ?_)
    | (with_reducible refine wp_regK fun K hK => ?_
       simp
       repeat' (with_reducible first | refine hK _ ?_ | (refine psel ?_ ?_ <;> (intro hc; (try rw [Decidable.not_not] at hc); first | (exfalso; omega) | (try simp [hc]))))
       all_goals (clear hK; clear K))
    | (with_reducible refine wp_condE ?_
       refine ⟨_, rfl, ?_, ?_⟩ <;> (intro hc; (try simp at hc); (all_goals first | (exfalso; omega) | skip))))
  · refine wp_loopI (σ := List Int × List Int) (fun s => [(0, AV.v k0 (D.sl 1 (List.map ei l)), none), (3, AV.pl 3 0 [], some (Rt.vir [C.own (D.sl 1 (s.1.map ei ++ List.replicate s.2.length [.int .i64 0]))])), (4, AV.v false (di (s.1.length : Nat)), none)]) (fun s => l = s.1 ++ s.2) (fun s => s.2.length) ([], l) (by simp) rfl ?_
    rintro ⟨pre, rest⟩ h1
    simp only at h1
    subst h1
    simp only [List.length_append, List.length_cons] at h
    rcases rest with _ | ⟨d, rest⟩
    · unfold pl244_0
      repeat' (first
        | with_reducible (first | refine wp_seq ?_ | refine wp_blk ?_ | refine wp_skip ?_ | refine wp_exit ?_ | refine wp_ret ?_ | refine seqQ_norm ?_ | refine seqQ_ret ?_ | refine seqQ_exit ?_ | refine blkQ_norm ?_ | refine blkQ_ret ?_ | refine blkQ_exit ?_ | refine loopQ_norm ?_ | refine loopQ_exit ?_ | refine loopQ_ret ?_ | refine endQ_ret ?_ | refine endQ_norm ?_ | refine endE_ret ?_ | refine endE_norm ?_ | refine endI_ret ?_ | refine endI_norm ?_)
        | (with_reducible refine wp_regK fun K hK => ?_
           simp
           repeat' (with_reducible first | refine hK _ ?_ | (refine psel ?_ ?_ <;> (intro hc; (try rw [Decidable.not_not] at hc); first | (exfalso; omega) | (try simp [hc]))))
           all_goals (clear hK; clear K))
        | (with_reducible refine wp_condE ?_
           refine ⟨_, rfl, ?_, ?_⟩ <;> (intro hc; (try simp at hc); (all_goals first | (exfalso; omega) | skip))))
      all_goals simp [pf244]
    · unfold pl244_0
      simp only [List.length_cons] at h
      have hw : IntKind.wrap .i64 ((pre.length : Int) + 1) = (pre.length : Int) + 1 := wrap_i64 (by omega) (by omega)
      repeat' (first
        | with_reducible (first | refine wp_seq ?_ | refine wp_blk ?_ | refine wp_skip ?_ | refine wp_exit ?_ | refine wp_ret ?_ | refine seqQ_norm ?_ | refine seqQ_ret ?_ | refine seqQ_exit ?_ | refine blkQ_norm ?_ | refine blkQ_ret ?_ | refine blkQ_exit ?_ | refine loopQ_norm ?_ | refine loopQ_exit ?_ | refine loopQ_ret ?_ | refine endQ_ret ?_ | refine endQ_norm ?_ | refine endE_ret ?_ | refine endE_norm ?_ | refine endI_ret ?_ | refine endI_norm ?_)
        | (with_reducible refine wp_regK fun K hK => ?_
           simp[List.replicate_succ, hw]
           repeat' (with_reducible first | refine hK _ ?_ | (refine psel ?_ ?_ <;> (intro hc; (try rw [Decidable.not_not] at hc); first | (exfalso; omega) | (try simp [hc, List.replicate_succ, hw]))))
           all_goals (clear hK; clear K))
        | (with_reducible refine wp_condE ?_
           refine ⟨_, rfl, ?_, ?_⟩ <;> (intro hc; (try simp at hc); (all_goals first | (exfalso; omega) | skip))))
      all_goals exact ⟨(pre ++ [d], rest), by simp, by simp, by simp⟩

@[simp] theorem t152 (k0 k1 : Bool) (l : List Int) (h : l.length ≤ 1048576)  : Gw TT 152 [.one (.ro k0 (.sl 1 (l.map ei))), .one (.ro k1 (.sl 1 (l.map ei)))] = some (vb true, []) := by
  refine Gw_of (F := pf152) rfl rfl ?_
  show Wp _ pb152 _ _
  unfold pb152
  repeat' (first
    | with_reducible (first | refine wp_seq ?_ | refine wp_blk ?_ | refine wp_skip ?_ | refine wp_exit ?_ | refine wp_ret ?_ | refine seqQ_norm ?_ | refine seqQ_ret ?_ | refine seqQ_exit ?_ | refine blkQ_norm ?_ | refine blkQ_ret ?_ | refine blkQ_exit ?_ | refine loopQ_norm ?_ | refine loopQ_exit ?_ | refine loopQ_ret ?_ | refine endQ_ret ?_ | refine endQ_norm ?_ | refine endE_ret ?_ | refine endE_norm ?_ | refine endI_ret ?_ | refine endI_norm ?_)
    | (with_reducible refine wp_regK fun K hK => ?_
       simp
       repeat' (with_reducible first | refine hK _ ?_ | (refine psel ?_ ?_ <;> (intro hc; (try rw [Decidable.not_not] at hc); first | (exfalso; omega) | (try simp [hc]))))
       all_goals (clear hK; clear K))
    | (with_reducible refine wp_condE ?_
       refine ⟨_, rfl, ?_, ?_⟩ <;> (intro hc; (try simp at hc); (all_goals first | (exfalso; omega) | skip))))
  · refine wp_loopI (σ := List Int × List Int) (fun s => [(0, AV.v k0 (D.sl 1 (List.map ei l)), none), (1, AV.v k1 (D.sl 1 (List.map ei l)), none), (5, AV.v false (di (s.1.length : Nat)), none)]) (fun s => l = s.1 ++ s.2) (fun s => s.2.length) ([], l) (by simp) rfl ?_
    rintro ⟨pre, rest⟩ h1
    simp only at h1
    subst h1
    simp only [List.length_append, List.length_cons] at h
    rcases rest with _ | ⟨d, rest⟩
    · unfold pl152_0
      repeat' (first
        | with_reducible (first | refine wp_seq ?_ | refine wp_blk ?_ | refine wp_skip ?_ | refine wp_exit ?_ | refine wp_ret ?_ | refine seqQ_norm ?_ | refine seqQ_ret ?_ | refine seqQ_exit ?_ | refine blkQ_norm ?_ | refine blkQ_ret ?_ | refine blkQ_exit ?_ | refine loopQ_norm ?_ | refine loopQ_exit ?_ | refine loopQ_ret ?_ | refine endQ_ret ?_ | refine endQ_norm ?_ | refine endE_ret ?_ | refine endE_norm ?_ | refine endI_ret ?_ | refine endI_norm ?_)
        | (with_reducible refine wp_regK fun K hK => ?_
           simp
           repeat' (with_reducible first | refine hK _ ?_ | (refine psel ?_ ?_ <;> (intro hc; (try rw [Decidable.not_not] at hc); first | (exfalso; omega) | (try simp [hc]))))
           all_goals (clear hK; clear K))
        | (with_reducible refine wp_condE ?_
           refine ⟨_, rfl, ?_, ?_⟩ <;> (intro hc; (try simp at hc); (all_goals first | (exfalso; omega) | skip))))
      all_goals simp [pf152]
    · unfold pl152_0
      simp only [List.length_cons] at h
      have hw : IntKind.wrap .i64 ((pre.length : Int) + 1) = (pre.length : Int) + 1 := wrap_i64 (by omega) (by omega)
      repeat' (first
        | with_reducible (first | refine wp_seq ?_ | refine wp_blk ?_ | refine wp_skip ?_ | refine wp_exit ?_ | refine wp_ret ?_ | refine seqQ_norm ?_ | refine seqQ_ret ?_ | refine seqQ_exit ?_ | refine blkQ_norm ?_ | refine blkQ_ret ?_ | refine blkQ_exit ?_ | refine loopQ_norm ?_ | refine loopQ_exit ?_ | refine loopQ_ret ?_ | refine endQ_ret ?_ | refine endQ_norm ?_ | refine endE_ret ?_ | refine endE_norm ?_ | refine endI_ret ?_ | refine endI_norm ?_)
        | (with_reducible refine wp_regK fun K hK => ?_
           simp[hw]
           repeat' (with_reducible first | refine hK _ ?_ | (refine psel ?_ ?_ <;> (intro hc; (try rw [Decidable.not_not] at hc); first | (exfalso; omega) | (try simp [hc, hw]))))
           all_goals (clear hK; clear K))
        | (with_reducible refine wp_condE ?_
           refine ⟨_, rfl, ?_, ?_⟩ <;> (intro hc; (try simp at hc); (all_goals first | (exfalso; omega) | skip))))
      all_goals exact ⟨(pre ++ [d], rest), by simp, by simp, by simp⟩

def oldPin : Int → List Int → Int
  | o, [] => o
  | o, p :: l => if 0 ≤ p ∧ (o < 0 ∨ p < o) then oldPin p l else oldPin o l

@[simp] theorem t33 (k0 : Bool) (l : List Int) (e : Int) (h : l.length ≤ 1048576) : Gw TT 33 [.one (.ro k0 (.sl 1 (l.map ei))), vi e] = some (vi (if oldPin (-1) l < 0 then e else oldPin (-1) l), []) := by
  refine Gw_of (F := pf33) rfl rfl ?_
  show Wp _ pb33 _ _
  unfold pb33
  repeat' (first
    | with_reducible (first | refine wp_seq ?_ | refine wp_blk ?_ | refine wp_skip ?_ | refine wp_exit ?_ | refine wp_ret ?_ | refine seqQ_norm ?_ | refine seqQ_ret ?_ | refine seqQ_exit ?_ | refine blkQ_norm ?_ | refine blkQ_ret ?_ | refine blkQ_exit ?_ | refine loopQ_norm ?_ | refine loopQ_exit ?_ | refine loopQ_ret ?_ | refine endQ_ret ?_ | refine endQ_norm ?_ | refine endE_ret ?_ | refine endE_norm ?_ | refine endI_ret ?_ | refine endI_norm ?_)
    | (with_reducible refine wp_regK fun K hK => ?_
       simp
       repeat' (with_reducible first | refine hK _ ?_ | (refine psel ?_ ?_ <;> (intro hc; (try rw [Decidable.not_not] at hc); first | (exfalso; omega) | (try simp [hc]))))
       all_goals (clear hK; clear K))
    | (with_reducible refine wp_condE ?_
       refine ⟨_, rfl, ?_, ?_⟩ <;> (intro hc; (try simp at hc); (all_goals first | (exfalso; omega) | skip))))
  refine wp_loopI (σ := List Int × List Int × Int) (fun s => [(1, AV.v false (di e), none), (5, AV.v false (di s.2.2), none), (8, AV.v k0 (D.sl 1 (l.map ei)), none), (9, AV.v false (di (l.length : Nat)), none), (10, AV.v false (di ((s.1.length : Nat) : Int)), none)]) (fun s => l = s.1 ++ s.2.1 ∧ oldPin s.2.2 s.2.1 = oldPin (-1) l) (fun s => s.2.1.length) ([], l, (-1)) (by simp) ⟨rfl, rfl⟩ ?_
  rintro ⟨pre, rest, a⟩ ⟨h1, h2⟩
  simp only at h1 h2
  subst h1
  simp only [List.length_append, List.length_cons] at h
  rcases rest with _ | ⟨d, rest⟩
  · unfold pl33_0
    simp only [oldPin] at h2
    repeat' (first
      | with_reducible (first | refine wp_seq ?_ | refine wp_blk ?_ | refine wp_skip ?_ | refine wp_exit ?_ | refine wp_ret ?_ | refine seqQ_norm ?_ | refine seqQ_ret ?_ | refine seqQ_exit ?_ | refine blkQ_norm ?_ | refine blkQ_ret ?_ | refine blkQ_exit ?_ | refine loopQ_norm ?_ | refine loopQ_exit ?_ | refine loopQ_ret ?_ | refine endQ_ret ?_ | refine endQ_norm ?_ | refine endE_ret ?_ | refine endE_norm ?_ | refine endI_ret ?_ | refine endI_norm ?_)
      | (with_reducible refine wp_regK fun K hK => ?_
         simp
         repeat' (with_reducible first | refine hK _ ?_ | (refine psel ?_ ?_ <;> (intro hc; (try rw [Decidable.not_not] at hc); first | (exfalso; omega) | (try simp [hc]))))
         all_goals (clear hK; clear K))
      | (with_reducible refine wp_condE ?_
         refine ⟨_, rfl, ?_, ?_⟩ <;> (intro hc; (try simp at hc); (all_goals first | (exfalso; omega) | skip))))
    all_goals first | (simp_all [pf33]; done) | (simp_all [pf33]; omega)
  · unfold pl33_0
    simp only [List.length_cons] at h
    simp only [oldPin] at h2
    have hw : IntKind.wrap .i64 ((pre.length : Int) + 1) = (pre.length : Int) + 1 := wrap_i64 (by omega) (by omega)
    repeat' (first
      | with_reducible (first | refine wp_seq ?_ | refine wp_blk ?_ | refine wp_skip ?_ | refine wp_exit ?_ | refine wp_ret ?_ | refine seqQ_norm ?_ | refine seqQ_ret ?_ | refine seqQ_exit ?_ | refine blkQ_norm ?_ | refine blkQ_ret ?_ | refine blkQ_exit ?_ | refine loopQ_norm ?_ | refine loopQ_exit ?_ | refine loopQ_ret ?_ | refine endQ_ret ?_ | refine endQ_norm ?_ | refine endE_ret ?_ | refine endE_norm ?_ | refine endI_ret ?_ | refine endI_norm ?_)
      | (with_reducible refine wp_regK fun K hK => ?_
         simp[hw]
         repeat' (with_reducible first | refine hK _ ?_ | (refine psel ?_ ?_ <;> (intro hc; (try rw [Decidable.not_not] at hc); first | (exfalso; omega) | (try simp [hc, hw]))))
         all_goals (clear hK; clear K))
      | (with_reducible refine wp_condE ?_
         refine ⟨_, rfl, ?_, ?_⟩ <;> (intro hc; (try simp at hc); (all_goals first | (exfalso; omega) | skip))))
    all_goals first | (refine ⟨(pre ++ [d], rest, d), ?_, ⟨?_, ?_⟩, ?_⟩; (focus (first | (simp; done) | (simp_all; done))); (focus (simp; done)); (focus (refine Eq.trans ?_ h2; clear h2; first | (simp [*]; done) | (simp_all; done) | (split <;> simp_all <;> omega) | (split <;> first | (exfalso; omega) | (simp_all; done)))); (focus (simp; done))) | (refine ⟨(pre ++ [d], rest, a), ?_, ⟨?_, ?_⟩, ?_⟩; (focus (first | (simp; done) | (simp_all; done))); (focus (simp; done)); (focus (refine Eq.trans ?_ h2; clear h2; first | (simp [*]; done) | (simp_all; done) | (split <;> simp_all <;> omega) | (split <;> first | (exfalso; omega) | (simp_all; done)))); (focus (simp; done))) | (simp_all [pf33]; done) | (simp_all [pf33]; omega) | (split at h2 <;> first | (exfalso; omega) | (simp_all [pf33]; done))

def specPin : Int → Bool → List Int → Int
  | n, _, [] => n
  | n, f, p :: l => if 0 ≤ p ∧ (f = false ∨ p < n) then specPin p true l else specPin n f l

theorem specPin_true : ∀ (l : List Int) (n : Int), 0 ≤ n → specPin n true l = oldPin n l ∧ 0 ≤ oldPin n l
  | [], n, h => ⟨rfl, h⟩
  | p :: l, n, h => by
    simp only [specPin, oldPin]
    by_cases hc : 0 ≤ p ∧ p < n
    · have h1 := specPin_true l p hc.1
      have : 0 ≤ p ∧ (n < 0 ∨ p < n) := ⟨hc.1, .inr hc.2⟩
      simp [hc, this, h1]
    · have h1 := specPin_true l n h
      have h2 : ¬ (0 ≤ p ∧ (n < 0 ∨ p < n)) := by omega
      simp [hc, h2, h1]

theorem specPin_false : ∀ (l : List Int) (e : Int), specPin e false l = if oldPin (-1) l < 0 then e else oldPin (-1) l
  | [], e => by simp [specPin, oldPin]
  | p :: l, e => by
    simp only [specPin, oldPin]
    by_cases hc : 0 ≤ p
    · obtain ⟨h1, h2⟩ := specPin_true l p hc
      have : ¬ oldPin p l < 0 := by omega
      simp [hc, h1, this]
    · simp [hc, specPin_false l e]

@[simp] theorem t314 (k0 : Bool) (l : List Int) (e : Int) (h : l.length ≤ 1048576) : Gw TT 314 [.one (.ro k0 (.sl 1 (l.map ei))), vi e] = some (vi (if oldPin (-1) l < 0 then e else oldPin (-1) l), []) := by
  refine Gw_of (F := pf314) rfl rfl ?_
  show Wp _ pb314 _ _
  unfold pb314
  repeat' (first
    | with_reducible (first | refine wp_seq ?_ | refine wp_blk ?_ | refine wp_skip ?_ | refine wp_exit ?_ | refine wp_ret ?_ | refine seqQ_norm ?_ | refine seqQ_ret ?_ | refine seqQ_exit ?_ | refine blkQ_norm ?_ | refine blkQ_ret ?_ | refine blkQ_exit ?_ | refine loopQ_norm ?_ | refine loopQ_exit ?_ | refine loopQ_ret ?_ | refine endQ_ret ?_ | refine endQ_norm ?_ | refine endE_ret ?_ | refine endE_norm ?_ | refine endI_ret ?_ | refine endI_norm ?_)
    | (with_reducible refine wp_regK fun K hK => ?_
       simp
       repeat' (with_reducible first | refine hK _ ?_ | (refine psel ?_ ?_ <;> (intro hc; (try rw [Decidable.not_not] at hc); first | (exfalso; omega) | (try simp [hc]))))
       all_goals (clear hK; clear K))
    | (with_reducible refine wp_condE ?_
       refine ⟨_, rfl, ?_, ?_⟩ <;> (intro hc; (try simp at hc); (all_goals first | (exfalso; omega) | skip))))
  refine wp_loopI (σ := List Int × List Int × Int × Bool) (fun s => [(0, AV.v k0 (D.sl 1 (l.map ei)), none), (5, AV.v false (di s.2.2.1), none), (6, AV.v false (.bool s.2.2.2), none), (7, AV.v false (di ((s.1.length : Nat) : Int)), none)]) (fun s => l = s.1 ++ s.2.1 ∧ specPin s.2.2.1 s.2.2.2 s.2.1 = specPin (e, false).1 (e, false).2 l) (fun s => s.2.1.length) ([], l, (e, false)) (by simp) ⟨rfl, rfl⟩ ?_
  rintro ⟨pre, rest, a⟩ ⟨h1, h2⟩
  simp only at h1 h2
  subst h1
  simp only [List.length_append, List.length_cons] at h
  rcases rest with _ | ⟨d, rest⟩
  · unfold pl314_0
    simp only [specPin] at h2
    repeat' (first
      | with_reducible (first | refine wp_seq ?_ | refine wp_blk ?_ | refine wp_skip ?_ | refine wp_exit ?_ | refine wp_ret ?_ | refine seqQ_norm ?_ | refine seqQ_ret ?_ | refine seqQ_exit ?_ | refine blkQ_norm ?_ | refine blkQ_ret ?_ | refine blkQ_exit ?_ | refine loopQ_norm ?_ | refine loopQ_exit ?_ | refine loopQ_ret ?_ | refine endQ_ret ?_ | refine endQ_norm ?_ | refine endE_ret ?_ | refine endE_norm ?_ | refine endI_ret ?_ | refine endI_norm ?_)
      | (with_reducible refine wp_regK fun K hK => ?_
         simp
         repeat' (with_reducible first | refine hK _ ?_ | (refine psel ?_ ?_ <;> (intro hc; (try rw [Decidable.not_not] at hc); first | (exfalso; omega) | (try simp [hc]))))
         all_goals (clear hK; clear K))
      | (with_reducible refine wp_condE ?_
         refine ⟨_, rfl, ?_, ?_⟩ <;> (intro hc; (try simp at hc); (all_goals first | (exfalso; omega) | skip))))
    all_goals first | (simp_all [pf314, specPin_false]; done) | (simp_all [pf314, specPin_false]; omega)
  · unfold pl314_0
    simp only [List.length_cons] at h
    simp only [specPin] at h2
    have hw : IntKind.wrap .i64 ((pre.length : Int) + 1) = (pre.length : Int) + 1 := wrap_i64 (by omega) (by omega)
    repeat' (first
      | with_reducible (first | refine wp_seq ?_ | refine wp_blk ?_ | refine wp_skip ?_ | refine wp_exit ?_ | refine wp_ret ?_ | refine seqQ_norm ?_ | refine seqQ_ret ?_ | refine seqQ_exit ?_ | refine blkQ_norm ?_ | refine blkQ_ret ?_ | refine blkQ_exit ?_ | refine loopQ_norm ?_ | refine loopQ_exit ?_ | refine loopQ_ret ?_ | refine endQ_ret ?_ | refine endQ_norm ?_ | refine endE_ret ?_ | refine endE_norm ?_ | refine endI_ret ?_ | refine endI_norm ?_)
      | (with_reducible refine wp_regK fun K hK => ?_
         simp[hw]
         repeat' (with_reducible first | refine hK _ ?_ | (refine psel ?_ ?_ <;> (intro hc; (try rw [Decidable.not_not] at hc); first | (exfalso; omega) | (try simp [hc, hw]))))
         all_goals (clear hK; clear K))
      | (with_reducible refine wp_condE ?_
         refine ⟨_, rfl, ?_, ?_⟩ <;> (intro hc; (try simp at hc); (all_goals first | (exfalso; omega) | skip))))
    all_goals first | (refine ⟨(pre ++ [d], rest, (d, true)), ?_, ⟨?_, ?_⟩, ?_⟩; (focus (first | (simp; done) | (simp_all; done))); (focus (simp; done)); (focus (refine Eq.trans ?_ h2; clear h2; first | (simp [*]; done) | (simp_all; done) | (split <;> simp_all <;> omega) | (split <;> first | (exfalso; omega) | (simp_all; done)))); (focus (simp; done))) | (refine ⟨(pre ++ [d], rest, a), ?_, ⟨?_, ?_⟩, ?_⟩; (focus (first | (simp; done) | (simp_all; done))); (focus (simp; done)); (focus (refine Eq.trans ?_ h2; clear h2; first | (simp [*]; done) | (simp_all; done) | (split <;> simp_all <;> omega) | (split <;> first | (exfalso; omega) | (simp_all; done)))); (focus (simp; done))) | (simp_all [pf314, specPin_false]; done) | (simp_all [pf314, specPin_false]; omega) | (split at h2 <;> first | (exfalso; omega) | (simp_all [pf314, specPin_false]; done))

theorem t114 (aL : List Int) (aE : Int) (hok_aL : aL.length ≤ 9223372036854775807) : Gw TT 114 [.one (.ro false (.sl 1 (aL.map ei))), .one (.ro false (di aE))] = some (vb true, []) := by
  refine Gw_of (F := pf114) rfl rfl ?_
  show Wp _ pb114 _ _
  unfold pb114
  repeat' (first
    | with_reducible (first | refine wp_seq ?_ | refine wp_blk ?_ | refine wp_skip ?_ | refine wp_exit ?_ | refine wp_ret ?_ | refine seqQ_norm ?_ | refine seqQ_ret ?_ | refine seqQ_exit ?_ | refine blkQ_norm ?_ | refine blkQ_ret ?_ | refine blkQ_exit ?_ | refine loopQ_norm ?_ | refine loopQ_exit ?_ | refine loopQ_ret ?_ | refine endQ_ret ?_ | refine endQ_norm ?_ | refine endE_ret ?_ | refine endE_norm ?_ | refine endI_ret ?_ | refine endI_norm ?_)
    | (with_reducible refine wp_regK fun K hK => ?_
       simp
       repeat' (with_reducible first | refine hK _ ?_ | (refine psel ?_ ?_ <;> (intro hc; (try rw [Decidable.not_not] at hc); first | (exfalso; omega) | (try simp [hc]))))
       all_goals (clear hK; clear K))
    | (with_reducible refine wp_condE ?_
       refine ⟨_, rfl, ?_, ?_⟩ <;> (intro hc; (try simp at hc); (all_goals first | (exfalso; omega) | skip))))
  · simp [pf114]
  have hsm_aL : aL.length ≤ 1048576 := by omega
  repeat' (first
    | with_reducible (first | refine wp_seq ?_ | refine wp_blk ?_ | refine wp_skip ?_ | refine wp_exit ?_ | refine wp_ret ?_ | refine seqQ_norm ?_ | refine seqQ_ret ?_ | refine seqQ_exit ?_ | refine blkQ_norm ?_ | refine blkQ_ret ?_ | refine blkQ_exit ?_ | refine loopQ_norm ?_ | refine loopQ_exit ?_ | refine loopQ_ret ?_ | refine endQ_ret ?_ | refine endQ_norm ?_ | refine endE_ret ?_ | refine endE_norm ?_ | refine endI_ret ?_ | refine endI_norm ?_)
    | (with_reducible refine wp_regK fun K hK => ?_
       simp[hsm_aL]
       repeat' (with_reducible first | refine hK _ ?_ | (refine psel ?_ ?_ <;> (intro hc; (try rw [Decidable.not_not] at hc); first | (exfalso; omega) | (try simp [hc, hsm_aL]))))
       all_goals (clear hK; clear K))
    | (with_reducible refine wp_condE ?_
       refine ⟨_, rfl, ?_, ?_⟩ <;> (intro hc; (try simp at hc); (all_goals first | (exfalso; omega) | skip))))
  all_goals first | (simp [pf114]; done) | (simp_all [pf114]; done)

end Go.Proofs.Ytphnbkhopedpgaa.OM
