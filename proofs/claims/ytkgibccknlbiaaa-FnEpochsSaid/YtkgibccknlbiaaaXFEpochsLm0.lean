/- What the functions answer. -/
import Derived.Test.YtkgibccknlbiaaaOMTypes
import Derived.Test.YtkgibccknlbiaaaOMTac2
import Derived.Test.YtkgibccknlbiaaaXFEpochsPc0
set_option linter.all false
namespace Go.Proofs.Ytkgibccknlbiaaa.OM
set_option maxHeartbeats 4000000
set_option maxRecDepth 100000

def tab : List (Nat × PF) := [(23, pf23), (31, pf31), (33, pf33), (38, pf38), (43, pf43), (61, pf61), (64, pf64), (80, pf80), (87, pf87), (91, pf91), (141, pf141), (200, pf200), (278, pf278), (280, pf280), (283, pf283), (287, pf287), (294, pf294), (302, pf302), (310, pf310), (314, pf314), (318, pf318), (324, pf324), (342, pf342), (345, pf345), (364, pf364), (365, pf365), (366, pf366), (375, pf375), (376, pf376), (377, pf377), (378, pf378), (379, pf379), (382, pf382)]
def TT (k : Nat) : Option PF := tab.lookup k

def mayAdv (e : Int) : List Int → Bool
  | [] => true
  | p :: l => if p ≠ -1 ∧ p ≠ e then false else mayAdv e l

@[simp] theorem t31 (k0 : Bool) (l : List Int) (e : Int) (h : l.length ≤ 1048576) : Gw TT 31 [.one (.ro k0 (.sl 1 (l.map ei))), vi e] = some (vb (mayAdv e l), []) := by
  refine Gw_of (F := pf31) rfl rfl ?_
  show Wp _ pb31 _ _
  unfold pb31
  repeat' (first
    | with_reducible (first | refine wp_seq ?_ | refine wp_blk ?_ | refine wp_skip ?_ | refine wp_exit ?_ | refine wp_ret ?_ | refine seqQ_norm ?_ | refine seqQ_ret ?_ | refine seqQ_exit ?_ | refine blkQ_norm ?_ | refine blkQ_ret ?_ | refine blkQ_exit ?_ | refine loopQ_norm ?_ | refine loopQ_exit ?_ | refine loopQ_ret ?_ | refine endQ_ret ?_ | refine endQ_norm ?_ | refine endE_ret ?_ | refine endE_norm ?_ | refine endI_ret ?_ | refine endI_norm ?_)
    | (with_reducible refine wp_regK fun K hK => ?_
       simp
       repeat' (with_reducible first | refine hK _ ?_ | (refine psel ?_ ?_ <;> (intro hc; (try rw [Decidable.not_not] at hc); first | (exfalso; omega) | (try simp [hc]))))
       all_goals (clear hK; clear K))
    | (with_reducible refine wp_condE ?_
       refine ⟨_, rfl, ?_, ?_⟩ <;> (intro hc; (try simp at hc); (all_goals first | (exfalso; omega) | skip))))
  refine wp_loopI (σ := List (Int) × List (Int)) (fun s => [(1, AV.v false (di e), none), (7, AV.v k0 (D.sl 1 (l.map ei)), none), (8, AV.v false (di (l.length : Nat)), none), (9, AV.v false (di ((s.1.length : Nat) : Int)), none)]) (fun s => l = s.1 ++ s.2 ∧ mayAdv e s.2 = mayAdv e l) (fun s => s.2.length) ([], l) (by simp) ⟨rfl, rfl⟩ ?_
  rintro ⟨pre, rest⟩ ⟨h1, h2⟩
  simp only at h1 h2
  subst h1
  simp only [List.length_append, List.length_cons] at h
  rcases rest with _ | ⟨d, rest⟩
  · unfold pl31_0
    simp only [mayAdv] at h2
    repeat' (first
      | with_reducible (first | refine wp_seq ?_ | refine wp_blk ?_ | refine wp_skip ?_ | refine wp_exit ?_ | refine wp_ret ?_ | refine seqQ_norm ?_ | refine seqQ_ret ?_ | refine seqQ_exit ?_ | refine blkQ_norm ?_ | refine blkQ_ret ?_ | refine blkQ_exit ?_ | refine loopQ_norm ?_ | refine loopQ_exit ?_ | refine loopQ_ret ?_ | refine endQ_ret ?_ | refine endQ_norm ?_ | refine endE_ret ?_ | refine endE_norm ?_ | refine endI_ret ?_ | refine endI_norm ?_)
      | (with_reducible refine wp_regK fun K hK => ?_
         simp
         repeat' (with_reducible first | refine hK _ ?_ | (refine psel ?_ ?_ <;> (intro hc; (try rw [Decidable.not_not] at hc); first | (exfalso; omega) | (try simp [hc]))))
         all_goals (clear hK; clear K))
      | (with_reducible refine wp_condE ?_
         refine ⟨_, rfl, ?_, ?_⟩ <;> (intro hc; (try simp at hc); (all_goals first | (exfalso; omega) | skip))))
    all_goals first | (simp_all [pf31]; done) | (simp_all [pf31]; omega)
  · unfold pl31_0
    simp only [List.length_cons] at h
    simp only [mayAdv] at h2
    have hw : IntKind.wrap .i64 ((pre.length : Int) + 1) = (pre.length : Int) + 1 := wrap_i64 (by omega) (by omega)
    repeat' (first
      | with_reducible (first | refine wp_seq ?_ | refine wp_blk ?_ | refine wp_skip ?_ | refine wp_exit ?_ | refine wp_ret ?_ | refine seqQ_norm ?_ | refine seqQ_ret ?_ | refine seqQ_exit ?_ | refine blkQ_norm ?_ | refine blkQ_ret ?_ | refine blkQ_exit ?_ | refine loopQ_norm ?_ | refine loopQ_exit ?_ | refine loopQ_ret ?_ | refine endQ_ret ?_ | refine endQ_norm ?_ | refine endE_ret ?_ | refine endE_norm ?_ | refine endI_ret ?_ | refine endI_norm ?_)
      | (with_reducible refine wp_regK fun K hK => ?_
         simp[hw]
         repeat' (with_reducible first | refine hK _ ?_ | (refine psel ?_ ?_ <;> (intro hc; (try rw [Decidable.not_not] at hc); first | (exfalso; omega) | (try simp [hc, hw]))))
         all_goals (clear hK; clear K))
      | (with_reducible refine wp_condE ?_
         refine ⟨_, rfl, ?_, ?_⟩ <;> (intro hc; (try simp at hc); (all_goals first | (exfalso; omega) | skip))))
    all_goals first | (refine ⟨(pre ++ [d], rest), ?_, ⟨?_, ?_⟩, ?_⟩; (focus (first | (simp; done) | (simp_all; done))); (focus (simp; done)); (focus (refine Eq.trans ?_ h2; clear h2; first | (simp [*]; done) | (simp_all; done) | (split <;> simp_all <;> omega) | (split <;> first | (exfalso; omega) | (simp_all; done)))); (focus (simp; done))) | (simp_all [pf31]; done) | (simp_all [pf31]; omega) | (split at h2 <;> first | (exfalso; omega) | (simp_all [pf31]; done))

@[simp] theorem t310 (k0 : Bool) (l : List Int) (e : Int) (h : l.length ≤ 1048576) : Gw TT 310 [.one (.ro k0 (.sl 1 (l.map ei))), vi e] = some (vb (mayAdv e l), []) := by
  refine Gw_of (F := pf310) rfl rfl ?_
  show Wp _ pb310 _ _
  unfold pb310
  repeat' (first
    | with_reducible (first | refine wp_seq ?_ | refine wp_blk ?_ | refine wp_skip ?_ | refine wp_exit ?_ | refine wp_ret ?_ | refine seqQ_norm ?_ | refine seqQ_ret ?_ | refine seqQ_exit ?_ | refine blkQ_norm ?_ | refine blkQ_ret ?_ | refine blkQ_exit ?_ | refine loopQ_norm ?_ | refine loopQ_exit ?_ | refine loopQ_ret ?_ | refine endQ_ret ?_ | refine endQ_norm ?_ | refine endE_ret ?_ | refine endE_norm ?_ | refine endI_ret ?_ | refine endI_norm ?_)
    | (with_reducible refine wp_regK fun K hK => ?_
       simp
       repeat' (with_reducible first | refine hK _ ?_ | (refine psel ?_ ?_ <;> (intro hc; (try rw [Decidable.not_not] at hc); first | (exfalso; omega) | (try simp [hc]))))
       all_goals (clear hK; clear K))
    | (with_reducible refine wp_condE ?_
       refine ⟨_, rfl, ?_, ?_⟩ <;> (intro hc; (try simp at hc); (all_goals first | (exfalso; omega) | skip))))
  refine wp_loopI (σ := List (Int) × List (Int)) (fun s => [(0, AV.v k0 (D.sl 1 (l.map ei)), none), (1, AV.v false (di e), none), (5, AV.v false (di ((s.1.length : Nat) : Int)), none)]) (fun s => l = s.1 ++ s.2 ∧ mayAdv e s.2 = mayAdv e l) (fun s => s.2.length) ([], l) (by simp) ⟨rfl, rfl⟩ ?_
  rintro ⟨pre, rest⟩ ⟨h1, h2⟩
  simp only at h1 h2
  subst h1
  simp only [List.length_append, List.length_cons] at h
  rcases rest with _ | ⟨d, rest⟩
  · unfold pl310_0
    simp only [mayAdv] at h2
    repeat' (first
      | with_reducible (first | refine wp_seq ?_ | refine wp_blk ?_ | refine wp_skip ?_ | refine wp_exit ?_ | refine wp_ret ?_ | refine seqQ_norm ?_ | refine seqQ_ret ?_ | refine seqQ_exit ?_ | refine blkQ_norm ?_ | refine blkQ_ret ?_ | refine blkQ_exit ?_ | refine loopQ_norm ?_ | refine loopQ_exit ?_ | refine loopQ_ret ?_ | refine endQ_ret ?_ | refine endQ_norm ?_ | refine endE_ret ?_ | refine endE_norm ?_ | refine endI_ret ?_ | refine endI_norm ?_)
      | (with_reducible refine wp_regK fun K hK => ?_
         simp
         repeat' (with_reducible first | refine hK _ ?_ | (refine psel ?_ ?_ <;> (intro hc; (try rw [Decidable.not_not] at hc); first | (exfalso; omega) | (try simp [hc]))))
         all_goals (clear hK; clear K))
      | (with_reducible refine wp_condE ?_
         refine ⟨_, rfl, ?_, ?_⟩ <;> (intro hc; (try simp at hc); (all_goals first | (exfalso; omega) | skip))))
    all_goals first | (simp_all [pf310]; done) | (simp_all [pf310]; omega)
  · unfold pl310_0
    simp only [List.length_cons] at h
    simp only [mayAdv] at h2
    have hw : IntKind.wrap .i64 ((pre.length : Int) + 1) = (pre.length : Int) + 1 := wrap_i64 (by omega) (by omega)
    repeat' (first
      | with_reducible (first | refine wp_seq ?_ | refine wp_blk ?_ | refine wp_skip ?_ | refine wp_exit ?_ | refine wp_ret ?_ | refine seqQ_norm ?_ | refine seqQ_ret ?_ | refine seqQ_exit ?_ | refine blkQ_norm ?_ | refine blkQ_ret ?_ | refine blkQ_exit ?_ | refine loopQ_norm ?_ | refine loopQ_exit ?_ | refine loopQ_ret ?_ | refine endQ_ret ?_ | refine endQ_norm ?_ | refine endE_ret ?_ | refine endE_norm ?_ | refine endI_ret ?_ | refine endI_norm ?_)
      | (with_reducible refine wp_regK fun K hK => ?_
         simp[hw]
         repeat' (with_reducible first | refine hK _ ?_ | (refine psel ?_ ?_ <;> (intro hc; (try rw [Decidable.not_not] at hc); first | (exfalso; omega) | (try simp [hc, hw]))))
         all_goals (clear hK; clear K))
      | (with_reducible refine wp_condE ?_
         refine ⟨_, rfl, ?_, ?_⟩ <;> (intro hc; (try simp at hc); (all_goals first | (exfalso; omega) | skip))))
    all_goals first | (refine ⟨(pre ++ [d], rest), ?_, ⟨?_, ?_⟩, ?_⟩; (focus (first | (simp; done) | (simp_all; done))); (focus (simp; done)); (focus (refine Eq.trans ?_ h2; clear h2; first | (simp [*]; done) | (simp_all; done) | (split <;> simp_all <;> omega) | (split <;> first | (exfalso; omega) | (simp_all; done)))); (focus (simp; done))) | (simp_all [pf310]; done) | (simp_all [pf310]; omega) | (split at h2 <;> first | (exfalso; omega) | (simp_all [pf310]; done))

def oldPin : Int → List Int → Int
  | o, [] => o
  | o, p :: l => if 0 ≤ p ∧ (o < 0 ∨ p < o) then oldPin p l else oldPin o l

@[simp] theorem t33 (k0 : Bool) (l : List Int) (e : Int) (h : l.length ≤ 1048576) : Gw TT 33 [.one (.ro k0 (.sl 1 (l.map ei))), vi e] = some (vi (if oldPin (-1) l < 0 then e else oldPin (-1) l), []) := by
  refine Gw_of (F := pf33) rfl rfl ?_
  show Wp _ pb33 _ _
  unfold pb33
  repeat' (first
    | with_reducible (first | refine wp_seq ?_ | refine wp_blk ?_ | refine wp_skip ?_ | refine wp_exit ?_ | refine wp_ret ?_ | refine seqQ_norm ?_ | refine seqQ_ret ?_ | refine seqQ_exit ?_ | refine blkQ_norm ?_ | refine blkQ_ret ?_ | refine blkQ_exit ?_ | refine loopQ_norm ?_ | refine loopQ_exit ?_ | refine loopQ_ret ?_ | refine endQ_ret ?_ | refine endQ_norm ?_ | refine endE_ret ?_ | refine endE_norm ?_ | refine endI_ret ?_ | refine endI_norm ?_)
    | (with_reducible refine wp_regK fun K hK => ?_
       simp
       repeat' (with_reducible first | refine hK _ ?_ | (refine psel ?_ ?_ <;> (intro hc; (try rw [Decidable.not_not] at hc); first | (exfalso; omega) | (try simp [hc]))))
       all_goals (clear hK; clear K))
    | (with_reducible refine wp_condE ?_
       refine ⟨_, rfl, ?_, ?_⟩ <;> (intro hc; (try simp at hc); (all_goals first | (exfalso; omega) | skip))))
  refine wp_loopI (σ := List (Int) × List (Int) × Int) (fun s => [(1, AV.v false (di e), none), (5, AV.v false (di s.2.2), none), (8, AV.v k0 (D.sl 1 (l.map ei)), none), (9, AV.v false (di (l.length : Nat)), none), (10, AV.v false (di ((s.1.length : Nat) : Int)), none)]) (fun s => l = s.1 ++ s.2.1 ∧ oldPin s.2.2 s.2.1 = oldPin (-1) l) (fun s => s.2.1.length) ([], l, (-1)) (by simp) ⟨rfl, rfl⟩ ?_
  rintro ⟨pre, rest, a⟩ ⟨h1, h2⟩
  simp only at h1 h2
  subst h1
  simp only [List.length_append, List.length_cons] at h
  rcases rest with _ | ⟨d, rest⟩
  · unfold pl33_0
    simp only [oldPin] at h2
    repeat' (first
      | with_reducible (first | refine wp_seq ?_ | refine wp_blk ?_ | refine wp_skip ?_ | refine wp_exit ?_ | refine wp_ret ?_ | refine seqQ_norm ?_ | refine seqQ_ret ?_ | refine seqQ_exit ?_ | refine blkQ_norm ?_ | refine blkQ_ret ?_ | refine blkQ_exit ?_ | refine loopQ_norm ?_ | refine loopQ_exit ?_ | refine loopQ_ret ?_ | refine endQ_ret ?_ | refine endQ_norm ?_ | refine endE_ret ?_ | refine endE_norm ?_ | refine endI_ret ?_ | refine endI_norm ?_)
      | (with_reducible refine wp_regK fun K hK => ?_
         simp
         repeat' (with_reducible first | refine hK _ ?_ | (refine psel ?_ ?_ <;> (intro hc; (try rw [Decidable.not_not] at hc); first | (exfalso; omega) | (try simp [hc]))))
         all_goals (clear hK; clear K))
      | (with_reducible refine wp_condE ?_
         refine ⟨_, rfl, ?_, ?_⟩ <;> (intro hc; (try simp at hc); (all_goals first | (exfalso; omega) | skip))))
    all_goals first | (simp_all [pf33]; done) | (simp_all [pf33]; omega)
  · unfold pl33_0
    simp only [List.length_cons] at h
    simp only [oldPin] at h2
    have hw : IntKind.wrap .i64 ((pre.length : Int) + 1) = (pre.length : Int) + 1 := wrap_i64 (by omega) (by omega)
    repeat' (first
      | with_reducible (first | refine wp_seq ?_ | refine wp_blk ?_ | refine wp_skip ?_ | refine wp_exit ?_ | refine wp_ret ?_ | refine seqQ_norm ?_ | refine seqQ_ret ?_ | refine seqQ_exit ?_ | refine blkQ_norm ?_ | refine blkQ_ret ?_ | refine blkQ_exit ?_ | refine loopQ_norm ?_ | refine loopQ_exit ?_ | refine loopQ_ret ?_ | refine endQ_ret ?_ | refine endQ_norm ?_ | refine endE_ret ?_ | refine endE_norm ?_ | refine endI_ret ?_ | refine endI_norm ?_)
      | (with_reducible refine wp_regK fun K hK => ?_
         simp[hw]
         repeat' (with_reducible first | refine hK _ ?_ | (refine psel ?_ ?_ <;> (intro hc; (try rw [Decidable.not_not] at hc); first | (exfalso; omega) | (try simp [hc, hw]))))
         all_goals (clear hK; clear K))
      | (with_reducible refine wp_condE ?_
         refine ⟨_, rfl, ?_, ?_⟩ <;> (intro hc; (try simp at hc); (all_goals first | (exfalso; omega) | skip))))
    all_goals first | (refine ⟨(pre ++ [d], rest, d), ?_, ⟨?_, ?_⟩, ?_⟩; (focus (first | (simp; done) | (simp_all; done))); (focus (simp; done)); (focus (refine Eq.trans ?_ h2; clear h2; first | (simp [*]; done) | (simp_all; done) | (split <;> simp_all <;> omega) | (split <;> first | (exfalso; omega) | (simp_all; done)))); (focus (simp; done))) | (refine ⟨(pre ++ [d], rest, a), ?_, ⟨?_, ?_⟩, ?_⟩; (focus (first | (simp; done) | (simp_all; done))); (focus (simp; done)); (focus (refine Eq.trans ?_ h2; clear h2; first | (simp [*]; done) | (simp_all; done) | (split <;> simp_all <;> omega) | (split <;> first | (exfalso; omega) | (simp_all; done)))); (focus (simp; done))) | (simp_all [pf33]; done) | (simp_all [pf33]; omega) | (split at h2 <;> first | (exfalso; omega) | (simp_all [pf33]; done))

def specPin : Int → Bool → List Int → Int
  | n, _, [] => n
  | n, f, p :: l => if 0 ≤ p ∧ (f = false ∨ p < n) then specPin p true l else specPin n f l

theorem specPin_true : ∀ (l : List Int) (n : Int), 0 ≤ n → specPin n true l = oldPin n l ∧ 0 ≤ oldPin n l
  | [], n, h => ⟨rfl, h⟩
  | p :: l, n, h => by
    simp only [specPin, oldPin]
    by_cases hc : 0 ≤ p ∧ p < n
    · have h1 := specPin_true l p hc.1
      have : 0 ≤ p ∧ (n < 0 ∨ p < n) := ⟨hc.1, .inr hc.2⟩
      simp [hc, this, h1]
    · have h1 := specPin_true l n h
      have h2 : ¬ (0 ≤ p ∧ (n < 0 ∨ p < n)) := by omega
      simp [hc, h2, h1]

theorem specPin_false : ∀ (l : List Int) (e : Int), specPin e false l = if oldPin (-1) l < 0 then e else oldPin (-1) l
  | [], e => by simp [specPin, oldPin]
  | p :: l, e => by
    simp only [specPin, oldPin]
    by_cases hc : 0 ≤ p
    · obtain ⟨h1, h2⟩ := specPin_true l p hc
      have : ¬ oldPin p l < 0 := by omega
      simp [hc, h1, this]
    · simp [hc, specPin_false l e]

@[simp] theorem t314 (k0 : Bool) (l : List Int) (e : Int) (h : l.length ≤ 1048576) : Gw TT 314 [.one (.ro k0 (.sl 1 (l.map ei))), vi e] = some (vi (if oldPin (-1) l < 0 then e else oldPin (-1) l), []) := by
  refine Gw_of (F := pf314) rfl rfl ?_
  show Wp _ pb314 _ _
  unfold pb314
  repeat' (first
    | with_reducible (first | refine wp_seq ?_ | refine wp_blk ?_ | refine wp_skip ?_ | refine wp_exit ?_ | refine wp_ret ?_ | refine seqQ_norm ?_ | refine seqQ_ret ?_ | refine seqQ_exit ?_ | refine blkQ_norm ?_ | refine blkQ_ret ?_ | refine blkQ_exit ?_ | refine loopQ_norm ?_ | refine loopQ_exit ?_ | refine loopQ_ret ?_ | refine endQ_ret ?_ | refine endQ_norm ?_ | refine endE_ret ?_ | refine endE_norm ?_ | refine endI_ret ?_ | refine endI_norm ?_)
    | (with_reducible refine wp_regK fun K hK => ?_
       simp
       repeat' (with_reducible first | refine hK _ ?_ | (refine psel ?_ ?_ <;> (intro hc; (try rw [Decidable.not_not] at hc); first | (exfalso; omega) | (try simp [hc]))))
       all_goals (clear hK; clear K))
    | (with_reducible refine wp_condE ?_
       refine ⟨_, rfl, ?_, ?_⟩ <;> (intro hc; (try simp at hc); (all_goals first | (exfalso; omega) | skip))))
  refine wp_loopI (σ := List (Int) × List (Int) × Int × Bool) (fun s => [(0, AV.v k0 (D.sl 1 (l.map ei)), none), (5, AV.v false (di s.2.2.1), none), (6, AV.v false (.bool s.2.2.2), none), (7, AV.v false (di ((s.1.length : Nat) : Int)), none)]) (fun s => l = s.1 ++ s.2.1 ∧ specPin s.2.2.1 s.2.2.2 s.2.1 = specPin (e, false).1 (e, false).2 l) (fun s => s.2.1.length) ([], l, (e, false)) (by simp) ⟨rfl, rfl⟩ ?_
  rintro ⟨pre, rest, a⟩ ⟨h1, h2⟩
  simp only at h1 h2
  subst h1
  simp only [List.length_append, List.length_cons] at h
  rcases rest with _ | ⟨d, rest⟩
  · unfold pl314_0
    simp only [specPin] at h2
    repeat' (first
      | with_reducible (first | refine wp_seq ?_ | refine wp_blk ?_ | refine wp_skip ?_ | refine wp_exit ?_ | refine wp_ret ?_ | refine seqQ_norm ?_ | refine seqQ_ret ?_ | refine seqQ_exit ?_ | refine blkQ_norm ?_ | refine blkQ_ret ?_ | refine blkQ_exit ?_ | refine loopQ_norm ?_ | refine loopQ_exit ?_ | refine loopQ_ret ?_ | refine endQ_ret ?_ | refine endQ_norm ?_ | refine endE_ret ?_ | refine endE_norm ?_ | refine endI_ret ?_ | refine endI_norm ?_)
      | (with_reducible refine wp_regK fun K hK => ?_
         simp
         repeat' (with_reducible first | refine hK _ ?_ | (refine psel ?_ ?_ <;> (intro hc; (try rw [Decidable.not_not] at hc); first | (exfalso; omega) | (try simp [hc]))))
         all_goals (clear hK; clear K))
      | (with_reducible refine wp_condE ?_
         refine ⟨_, rfl, ?_, ?_⟩ <;> (intro hc; (try simp at hc); (all_goals first | (exfalso; omega) | skip))))
    all_goals first | (simp_all [pf314, specPin_false]; done) | (simp_all [pf314, specPin_false]; omega)
  · unfold pl314_0
    simp only [List.length_cons] at h
    simp only [specPin] at h2
    have hw : IntKind.wrap .i64 ((pre.length : Int) + 1) = (pre.length : Int) + 1 := wrap_i64 (by omega) (by omega)
    repeat' (first
      | with_reducible (first | refine wp_seq ?_ | refine wp_blk ?_ | refine wp_skip ?_ | refine wp_exit ?_ | refine wp_ret ?_ | refine seqQ_norm ?_ | refine seqQ_ret ?_ | refine seqQ_exit ?_ | refine blkQ_norm ?_ | refine blkQ_ret ?_ | refine blkQ_exit ?_ | refine loopQ_norm ?_ | refine loopQ_exit ?_ | refine loopQ_ret ?_ | refine endQ_ret ?_ | refine endQ_norm ?_ | refine endE_ret ?_ | refine endE_norm ?_ | refine endI_ret ?_ | refine endI_norm ?_)
      | (with_reducible refine wp_regK fun K hK => ?_
         simp[hw]
         repeat' (with_reducible first | refine hK _ ?_ | (refine psel ?_ ?_ <;> (intro hc; (try rw [Decidable.not_not] at hc); first | (exfalso; omega) | (try simp [hc, hw]))))
         all_goals (clear hK; clear K))
      | (with_reducible refine wp_condE ?_
         refine ⟨_, rfl, ?_, ?_⟩ <;> (intro hc; (try simp at hc); (all_goals first | (exfalso; omega) | skip))))
    all_goals first | (refine ⟨(pre ++ [d], rest, (d, true)), ?_, ⟨?_, ?_⟩, ?_⟩; (focus (first | (simp; done) | (simp_all; done))); (focus (simp; done)); (focus (refine Eq.trans ?_ h2; clear h2; first | (simp [*]; done) | (simp_all; done) | (split <;> simp_all <;> omega) | (split <;> first | (exfalso; omega) | (simp_all; done)))); (focus (simp; done))) | (refine ⟨(pre ++ [d], rest, a), ?_, ⟨?_, ?_⟩, ?_⟩; (focus (first | (simp; done) | (simp_all; done))); (focus (simp; done)); (focus (refine Eq.trans ?_ h2; clear h2; first | (simp [*]; done) | (simp_all; done) | (split <;> simp_all <;> omega) | (split <;> first | (exfalso; omega) | (simp_all; done)))); (focus (simp; done))) | (simp_all [pf314, specPin_false]; done) | (simp_all [pf314, specPin_false]; omega) | (split at h2 <;> first | (exfalso; omega) | (simp_all [pf314, specPin_false]; done))

def ripeB (e at0 : Int) : Bool := decide (2 ≤ e) && decide (at0 ≤ IntKind.wrap .i64 (e - 2))

@[simp] theorem t80 (x y z e : Int) : Gw TT 80 [.st [.ro false (di x), .ro false (di y), .ro false (di z)], vi e] = some (vb (ripeB e z), []) := by
  refine Gw_of (F := pf80) rfl rfl ?_
  show Wp _ pb80 _ _
  unfold pb80
  repeat' (first
    | with_reducible (first | refine wp_seq ?_ | refine wp_blk ?_ | refine wp_skip ?_ | refine wp_exit ?_ | refine wp_ret ?_ | refine seqQ_norm ?_ | refine seqQ_ret ?_ | refine seqQ_exit ?_ | refine blkQ_norm ?_ | refine blkQ_ret ?_ | refine blkQ_exit ?_ | refine loopQ_norm ?_ | refine loopQ_exit ?_ | refine loopQ_ret ?_ | refine endQ_ret ?_ | refine endQ_norm ?_ | refine endE_ret ?_ | refine endE_norm ?_ | refine endI_ret ?_ | refine endI_norm ?_)
    | (with_reducible refine wp_regK fun K hK => ?_
       simp
       repeat' (with_reducible first | refine hK _ ?_ | (refine psel ?_ ?_ <;> (intro hc; (try rw [Decidable.not_not] at hc); first | (exfalso; omega) | (try simp [hc]))))
       all_goals (clear hK; clear K))
    | (with_reducible refine wp_condE ?_
       refine ⟨_, rfl, ?_, ?_⟩ <;> (intro hc; (try simp at hc); (all_goals first | (exfalso; omega) | skip))))
  all_goals first | (simp_all [pf80, ripeB]; done) | (simp_all [pf80, ripeB]; omega)

@[simp] theorem t366 (x y z e : Int) : Gw TT 366 [.st [.ro false (di x), .ro false (di y), .ro false (di z)], vi e] = some (vb (ripeB e z), []) := by
  refine Gw_of (F := pf366) rfl rfl ?_
  show Wp _ pb366 _ _
  unfold pb366
  repeat' (first
    | with_reducible (first | refine wp_seq ?_ | refine wp_blk ?_ | refine wp_skip ?_ | refine wp_exit ?_ | refine wp_ret ?_ | refine seqQ_norm ?_ | refine seqQ_ret ?_ | refine seqQ_exit ?_ | refine blkQ_norm ?_ | refine blkQ_ret ?_ | refine blkQ_exit ?_ | refine loopQ_norm ?_ | refine loopQ_exit ?_ | refine loopQ_ret ?_ | refine endQ_ret ?_ | refine endQ_norm ?_ | refine endE_ret ?_ | refine endE_norm ?_ | refine endI_ret ?_ | refine endI_norm ?_)
    | (with_reducible refine wp_regK fun K hK => ?_
       simp
       repeat' (with_reducible first | refine hK _ ?_ | (refine psel ?_ ?_ <;> (intro hc; (try rw [Decidable.not_not] at hc); first | (exfalso; omega) | (try simp [hc]))))
       all_goals (clear hK; clear K))
    | (with_reducible refine wp_condE ?_
       refine ⟨_, rfl, ?_, ?_⟩ <;> (intro hc; (try simp at hc); (all_goals first | (exfalso; omega) | skip))))
  all_goals first | (simp_all [pf366, ripeB]; done) | (simp_all [pf366, ripeB]; omega)

def ripeF (e : Int) : Int → List XDead → Int
  | _, [] => -1
  | i, d :: l => if ripeB e d.At then i else ripeF e (i + 1) l
def waitsF (e : Int) : Int → List XDead → Int
  | n, [] => n
  | n, d :: l => if ripeB e d.At then waitsF e n l else waitsF e (IntKind.wrap .i64 (n + 1)) l

@[simp] theorem t43 (k0 : Bool) (l : List XDead) (e : Int) (h : l.length ≤ 1048576) : Gw TT 43 [.one (.ro k0 (.sl 3 (l.map XDead.e))), vi e] = some (vi (ripeF e 0 l), []) := by
  refine Gw_of (F := pf43) rfl rfl ?_
  show Wp _ pb43 _ _
  unfold pb43
  repeat' (first
    | with_reducible (first | refine wp_seq ?_ | refine wp_blk ?_ | refine wp_skip ?_ | refine wp_exit ?_ | refine wp_ret ?_ | refine seqQ_norm ?_ | refine seqQ_ret ?_ | refine seqQ_exit ?_ | refine blkQ_norm ?_ | refine blkQ_ret ?_ | refine blkQ_exit ?_ | refine loopQ_norm ?_ | refine loopQ_exit ?_ | refine loopQ_ret ?_ | refine endQ_ret ?_ | refine endQ_norm ?_ | refine endE_ret ?_ | refine endE_norm ?_ | refine endI_ret ?_ | refine endI_norm ?_)
    | (with_reducible refine wp_regK fun K hK => ?_
       simp
       repeat' (with_reducible first | refine hK _ ?_ | (refine psel ?_ ?_ <;> (intro hc; (try rw [Decidable.not_not] at hc); first | (exfalso; omega) | (try simp [hc]))))
       all_goals (clear hK; clear K))
    | (with_reducible refine wp_condE ?_
       refine ⟨_, rfl, ?_, ?_⟩ <;> (intro hc; (try simp at hc); (all_goals first | (exfalso; omega) | skip))))
  refine wp_loopI (σ := List (XDead) × List (XDead)) (fun s => [(1, AV.v false (di e), none), (7, AV.v k0 (D.sl 3 (l.map XDead.e)), none), (8, AV.v false (di (l.length : Nat)), none), (9, AV.v false (di ((s.1.length : Nat) : Int)), none)]) (fun s => l = s.1 ++ s.2 ∧ ripeF e ((s.1.length : Nat) : Int) s.2 = ripeF e (0 : Int) l) (fun s => s.2.length) ([], l) (by simp) ⟨rfl, rfl⟩ ?_
  rintro ⟨pre, rest⟩ ⟨h1, h2⟩
  simp only at h1 h2
  subst h1
  simp only [List.length_append, List.length_cons] at h
  rcases rest with _ | ⟨d, rest⟩
  · unfold pl43_0
    simp only [ripeF] at h2
    repeat' (first
      | with_reducible (first | refine wp_seq ?_ | refine wp_blk ?_ | refine wp_skip ?_ | refine wp_exit ?_ | refine wp_ret ?_ | refine seqQ_norm ?_ | refine seqQ_ret ?_ | refine seqQ_exit ?_ | refine blkQ_norm ?_ | refine blkQ_ret ?_ | refine blkQ_exit ?_ | refine loopQ_norm ?_ | refine loopQ_exit ?_ | refine loopQ_ret ?_ | refine endQ_ret ?_ | refine endQ_norm ?_ | refine endE_ret ?_ | refine endE_norm ?_ | refine endI_ret ?_ | refine endI_norm ?_)
      | (with_reducible refine wp_regK fun K hK => ?_
         simp
         repeat' (with_reducible first | refine hK _ ?_ | (refine psel ?_ ?_ <;> (intro hc; (try rw [Decidable.not_not] at hc); first | (exfalso; omega) | (try simp [hc]))))
         all_goals (clear hK; clear K))
      | (with_reducible refine wp_condE ?_
         refine ⟨_, rfl, ?_, ?_⟩ <;> (intro hc; (try simp at hc); (all_goals first | (exfalso; omega) | skip))))
    all_goals first | (simp_all [pf43]; done) | (simp_all [pf43]; omega)
  · unfold pl43_0
    simp only [List.length_cons] at h
    simp only [ripeF] at h2
    have hw : IntKind.wrap .i64 ((pre.length : Int) + 1) = (pre.length : Int) + 1 := wrap_i64 (by omega) (by omega)
    repeat' (first
      | with_reducible (first | refine wp_seq ?_ | refine wp_blk ?_ | refine wp_skip ?_ | refine wp_exit ?_ | refine wp_ret ?_ | refine seqQ_norm ?_ | refine seqQ_ret ?_ | refine seqQ_exit ?_ | refine blkQ_norm ?_ | refine blkQ_ret ?_ | refine blkQ_exit ?_ | refine loopQ_norm ?_ | refine loopQ_exit ?_ | refine loopQ_ret ?_ | refine endQ_ret ?_ | refine endQ_norm ?_ | refine endE_ret ?_ | refine endE_norm ?_ | refine endI_ret ?_ | refine endI_norm ?_)
      | (with_reducible refine wp_regK fun K hK => ?_
         simp[hw]
         repeat' (with_reducible first | refine hK _ ?_ | (refine psel ?_ ?_ <;> (intro hc; (try rw [Decidable.not_not] at hc); first | (exfalso; omega) | (try simp [hc, hw]))))
         all_goals (clear hK; clear K))
      | (with_reducible refine wp_condE ?_
         refine ⟨_, rfl, ?_, ?_⟩ <;> (intro hc; (try simp at hc); (all_goals first | (exfalso; omega) | skip))))
    all_goals first | (refine ⟨(pre ++ [d], rest), ?_, ⟨?_, ?_⟩, ?_⟩; (focus (first | (simp; done) | (simp_all; done))); (focus (simp; done)); (focus (refine Eq.trans ?_ h2; clear h2; first | (simp [*]; done) | (simp_all; done) | (split <;> simp_all <;> omega) | (split <;> first | (exfalso; omega) | (simp_all; done)))); (focus (simp; done))) | (simp_all [pf43]; done) | (simp_all [pf43]; omega) | (split at h2 <;> first | (exfalso; omega) | (simp_all [pf43]; done))

@[simp] theorem t324 (k0 : Bool) (l : List XDead) (e : Int) (h : l.length ≤ 1048576) : Gw TT 324 [.one (.ro k0 (.sl 3 (l.map XDead.e))), vi e] = some (vi (ripeF e 0 l), []) := by
  refine Gw_of (F := pf324) rfl rfl ?_
  show Wp _ pb324 _ _
  unfold pb324
  repeat' (first
    | with_reducible (first | refine wp_seq ?_ | refine wp_blk ?_ | refine wp_skip ?_ | refine wp_exit ?_ | refine wp_ret ?_ | refine seqQ_norm ?_ | refine seqQ_ret ?_ | refine seqQ_exit ?_ | refine blkQ_norm ?_ | refine blkQ_ret ?_ | refine blkQ_exit ?_ | refine loopQ_norm ?_ | refine loopQ_exit ?_ | refine loopQ_ret ?_ | refine endQ_ret ?_ | refine endQ_norm ?_ | refine endE_ret ?_ | refine endE_norm ?_ | refine endI_ret ?_ | refine endI_norm ?_)
    | (with_reducible refine wp_regK fun K hK => ?_
       simp
       repeat' (with_reducible first | refine hK _ ?_ | (refine psel ?_ ?_ <;> (intro hc; (try rw [Decidable.not_not] at hc); first | (exfalso; omega) | (try simp [hc]))))
       all_goals (clear hK; clear K))
    | (with_reducible refine wp_condE ?_
       refine ⟨_, rfl, ?_, ?_⟩ <;> (intro hc; (try simp at hc); (all_goals first | (exfalso; omega) | skip))))
  refine wp_loopI (σ := List (XDead) × List (XDead)) (fun s => [(0, AV.v k0 (D.sl 3 (l.map XDead.e)), none), (1, AV.v false (di e), none), (5, AV.v false (di ((s.1.length : Nat) : Int)), none)]) (fun s => l = s.1 ++ s.2 ∧ ripeF e ((s.1.length : Nat) : Int) s.2 = ripeF e (0 : Int) l) (fun s => s.2.length) ([], l) (by simp) ⟨rfl, rfl⟩ ?_
  rintro ⟨pre, rest⟩ ⟨h1, h2⟩
  simp only at h1 h2
  subst h1
  simp only [List.length_append, List.length_cons] at h
  rcases rest with _ | ⟨d, rest⟩
  · unfold pl324_0
    simp only [ripeF] at h2
    repeat' (first
      | with_reducible (first | refine wp_seq ?_ | refine wp_blk ?_ | refine wp_skip ?_ | refine wp_exit ?_ | refine wp_ret ?_ | refine seqQ_norm ?_ | refine seqQ_ret ?_ | refine seqQ_exit ?_ | refine blkQ_norm ?_ | refine blkQ_ret ?_ | refine blkQ_exit ?_ | refine loopQ_norm ?_ | refine loopQ_exit ?_ | refine loopQ_ret ?_ | refine endQ_ret ?_ | refine endQ_norm ?_ | refine endE_ret ?_ | refine endE_norm ?_ | refine endI_ret ?_ | refine endI_norm ?_)
      | (with_reducible refine wp_regK fun K hK => ?_
         simp
         repeat' (with_reducible first | refine hK _ ?_ | (refine psel ?_ ?_ <;> (intro hc; (try rw [Decidable.not_not] at hc); first | (exfalso; omega) | (try simp [hc]))))
         all_goals (clear hK; clear K))
      | (with_reducible refine wp_condE ?_
         refine ⟨_, rfl, ?_, ?_⟩ <;> (intro hc; (try simp at hc); (all_goals first | (exfalso; omega) | skip))))
    all_goals first | (simp_all [pf324]; done) | (simp_all [pf324]; omega)
  · unfold pl324_0
    simp only [List.length_cons] at h
    simp only [ripeF] at h2
    have hw : IntKind.wrap .i64 ((pre.length : Int) + 1) = (pre.length : Int) + 1 := wrap_i64 (by omega) (by omega)
    repeat' (first
      | with_reducible (first | refine wp_seq ?_ | refine wp_blk ?_ | refine wp_skip ?_ | refine wp_exit ?_ | refine wp_ret ?_ | refine seqQ_norm ?_ | refine seqQ_ret ?_ | refine seqQ_exit ?_ | refine blkQ_norm ?_ | refine blkQ_ret ?_ | refine blkQ_exit ?_ | refine loopQ_norm ?_ | refine loopQ_exit ?_ | refine loopQ_ret ?_ | refine endQ_ret ?_ | refine endQ_norm ?_ | refine endE_ret ?_ | refine endE_norm ?_ | refine endI_ret ?_ | refine endI_norm ?_)
      | (with_reducible refine wp_regK fun K hK => ?_
         simp[hw]
         repeat' (with_reducible first | refine hK _ ?_ | (refine psel ?_ ?_ <;> (intro hc; (try rw [Decidable.not_not] at hc); first | (exfalso; omega) | (try simp [hc, hw]))))
         all_goals (clear hK; clear K))
      | (with_reducible refine wp_condE ?_
         refine ⟨_, rfl, ?_, ?_⟩ <;> (intro hc; (try simp at hc); (all_goals first | (exfalso; omega) | skip))))
    all_goals first | (refine ⟨(pre ++ [d], rest), ?_, ⟨?_, ?_⟩, ?_⟩; (focus (first | (simp; done) | (simp_all; done))); (focus (simp; done)); (focus (refine Eq.trans ?_ h2; clear h2; first | (simp [*]; done) | (simp_all; done) | (split <;> simp_all <;> omega) | (split <;> first | (exfalso; omega) | (simp_all; done)))); (focus (simp; done))) | (simp_all [pf324]; done) | (simp_all [pf324]; omega) | (split at h2 <;> first | (exfalso; omega) | (simp_all [pf324]; done))

@[simp] theorem t61 (k0 : Bool) (l : List XDead) (e : Int) (h : l.length ≤ 1048576) : Gw TT 61 [.one (.ro k0 (.sl 3 (l.map XDead.e))), vi e] = some (vi (waitsF e 0 l), []) := by
  refine Gw_of (F := pf61) rfl rfl ?_
  show Wp _ pb61 _ _
  unfold pb61
  repeat' (first
    | with_reducible (first | refine wp_seq ?_ | refine wp_blk ?_ | refine wp_skip ?_ | refine wp_exit ?_ | refine wp_ret ?_ | refine seqQ_norm ?_ | refine seqQ_ret ?_ | refine seqQ_exit ?_ | refine blkQ_norm ?_ | refine blkQ_ret ?_ | refine blkQ_exit ?_ | refine loopQ_norm ?_ | refine loopQ_exit ?_ | refine loopQ_ret ?_ | refine endQ_ret ?_ | refine endQ_norm ?_ | refine endE_ret ?_ | refine endE_norm ?_ | refine endI_ret ?_ | refine endI_norm ?_)
    | (with_reducible refine wp_regK fun K hK => ?_
       simp
       repeat' (with_reducible first | refine hK _ ?_ | (refine psel ?_ ?_ <;> (intro hc; (try rw [Decidable.not_not] at hc); first | (exfalso; omega) | (try simp [hc]))))
       all_goals (clear hK; clear K))
    | (with_reducible refine wp_condE ?_
       refine ⟨_, rfl, ?_, ?_⟩ <;> (intro hc; (try simp at hc); (all_goals first | (exfalso; omega) | skip))))
  refine wp_loopI (σ := List (XDead) × List (XDead) × Int) (fun s => [(1, AV.v false (di e), none), (5, AV.v false (di s.2.2), none), (8, AV.v k0 (D.sl 3 (l.map XDead.e)), none), (9, AV.v false (di (l.length : Nat)), none), (10, AV.v false (di ((s.1.length : Nat) : Int)), none)]) (fun s => l = s.1 ++ s.2.1 ∧ waitsF e s.2.2 s.2.1 = waitsF e 0 l) (fun s => s.2.1.length) ([], l, 0) (by simp) ⟨rfl, rfl⟩ ?_
  rintro ⟨pre, rest, a⟩ ⟨h1, h2⟩
  simp only at h1 h2
  subst h1
  simp only [List.length_append, List.length_cons] at h
  rcases rest with _ | ⟨d, rest⟩
  · unfold pl61_0
    simp only [waitsF] at h2
    repeat' (first
      | with_reducible (first | refine wp_seq ?_ | refine wp_blk ?_ | refine wp_skip ?_ | refine wp_exit ?_ | refine wp_ret ?_ | refine seqQ_norm ?_ | refine seqQ_ret ?_ | refine seqQ_exit ?_ | refine blkQ_norm ?_ | refine blkQ_ret ?_ | refine blkQ_exit ?_ | refine loopQ_norm ?_ | refine loopQ_exit ?_ | refine loopQ_ret ?_ | refine endQ_ret ?_ | refine endQ_norm ?_ | refine endE_ret ?_ | refine endE_norm ?_ | refine endI_ret ?_ | refine endI_norm ?_)
      | (with_reducible refine wp_regK fun K hK => ?_
         simp
         repeat' (with_reducible first | refine hK _ ?_ | (refine psel ?_ ?_ <;> (intro hc; (try rw [Decidable.not_not] at hc); first | (exfalso; omega) | (try simp [hc]))))
         all_goals (clear hK; clear K))
      | (with_reducible refine wp_condE ?_
         refine ⟨_, rfl, ?_, ?_⟩ <;> (intro hc; (try simp at hc); (all_goals first | (exfalso; omega) | skip))))
    all_goals first | (simp_all [pf61]; done) | (simp_all [pf61]; omega)
  · unfold pl61_0
    simp only [List.length_cons] at h
    simp only [waitsF] at h2
    have hw : IntKind.wrap .i64 ((pre.length : Int) + 1) = (pre.length : Int) + 1 := wrap_i64 (by omega) (by omega)
    repeat' (first
      | with_reducible (first | refine wp_seq ?_ | refine wp_blk ?_ | refine wp_skip ?_ | refine wp_exit ?_ | refine wp_ret ?_ | refine seqQ_norm ?_ | refine seqQ_ret ?_ | refine seqQ_exit ?_ | refine blkQ_norm ?_ | refine blkQ_ret ?_ | refine blkQ_exit ?_ | refine loopQ_norm ?_ | refine loopQ_exit ?_ | refine loopQ_ret ?_ | refine endQ_ret ?_ | refine endQ_norm ?_ | refine endE_ret ?_ | refine endE_norm ?_ | refine endI_ret ?_ | refine endI_norm ?_)
      | (with_reducible refine wp_regK fun K hK => ?_
         simp[hw]
         repeat' (with_reducible first | refine hK _ ?_ | (refine psel ?_ ?_ <;> (intro hc; (try rw [Decidable.not_not] at hc); first | (exfalso; omega) | (try simp [hc, hw]))))
         all_goals (clear hK; clear K))
      | (with_reducible refine wp_condE ?_
         refine ⟨_, rfl, ?_, ?_⟩ <;> (intro hc; (try simp at hc); (all_goals first | (exfalso; omega) | skip))))
    all_goals first | (refine ⟨(pre ++ [d], rest, IntKind.wrap .i64 (a + 1)), ?_, ⟨?_, ?_⟩, ?_⟩; (focus (first | (simp; done) | (simp_all; done))); (focus (simp; done)); (focus (refine Eq.trans ?_ h2; clear h2; first | (simp [*]; done) | (simp_all; done) | (split <;> simp_all <;> omega) | (split <;> first | (exfalso; omega) | (simp_all; done)))); (focus (simp; done))) | (refine ⟨(pre ++ [d], rest, a), ?_, ⟨?_, ?_⟩, ?_⟩; (focus (first | (simp; done) | (simp_all; done))); (focus (simp; done)); (focus (refine Eq.trans ?_ h2; clear h2; first | (simp [*]; done) | (simp_all; done) | (split <;> simp_all <;> omega) | (split <;> first | (exfalso; omega) | (simp_all; done)))); (focus (simp; done))) | (simp_all [pf61]; done) | (simp_all [pf61]; omega) | (split at h2 <;> first | (exfalso; omega) | (simp_all [pf61]; done))

@[simp] theorem t342 (k0 : Bool) (l : List XDead) (e : Int) (h : l.length ≤ 1048576) : Gw TT 342 [.one (.ro k0 (.sl 3 (l.map XDead.e))), vi e] = some (vi (waitsF e 0 l), []) := by
  refine Gw_of (F := pf342) rfl rfl ?_
  show Wp _ pb342 _ _
  unfold pb342
  repeat' (first
    | with_reducible (first | refine wp_seq ?_ | refine wp_blk ?_ | refine wp_skip ?_ | refine wp_exit ?_ | refine wp_ret ?_ | refine seqQ_norm ?_ | refine seqQ_ret ?_ | refine seqQ_exit ?_ | refine blkQ_norm ?_ | refine blkQ_ret ?_ | refine blkQ_exit ?_ | refine loopQ_norm ?_ | refine loopQ_exit ?_ | refine loopQ_ret ?_ | refine endQ_ret ?_ | refine endQ_norm ?_ | refine endE_ret ?_ | refine endE_norm ?_ | refine endI_ret ?_ | refine endI_norm ?_)
    | (with_reducible refine wp_regK fun K hK => ?_
       simp
       repeat' (with_reducible first | refine hK _ ?_ | (refine psel ?_ ?_ <;> (intro hc; (try rw [Decidable.not_not] at hc); first | (exfalso; omega) | (try simp [hc]))))
       all_goals (clear hK; clear K))
    | (with_reducible refine wp_condE ?_
       refine ⟨_, rfl, ?_, ?_⟩ <;> (intro hc; (try simp at hc); (all_goals first | (exfalso; omega) | skip))))
  refine wp_loopI (σ := List (XDead) × List (XDead) × Int) (fun s => [(0, AV.v k0 (D.sl 3 (l.map XDead.e)), none), (1, AV.v false (di e), none), (5, AV.v false (di s.2.2), none), (6, AV.v false (di ((s.1.length : Nat) : Int)), none)]) (fun s => l = s.1 ++ s.2.1 ∧ waitsF e s.2.2 s.2.1 = waitsF e 0 l) (fun s => s.2.1.length) ([], l, 0) (by simp) ⟨rfl, rfl⟩ ?_
  rintro ⟨pre, rest, a⟩ ⟨h1, h2⟩
  simp only at h1 h2
  subst h1
  simp only [List.length_append, List.length_cons] at h
  rcases rest with _ | ⟨d, rest⟩
  · unfold pl342_0
    simp only [waitsF] at h2
    repeat' (first
      | with_reducible (first | refine wp_seq ?_ | refine wp_blk ?_ | refine wp_skip ?_ | refine wp_exit ?_ | refine wp_ret ?_ | refine seqQ_norm ?_ | refine seqQ_ret ?_ | refine seqQ_exit ?_ | refine blkQ_norm ?_ | refine blkQ_ret ?_ | refine blkQ_exit ?_ | refine loopQ_norm ?_ | refine loopQ_exit ?_ | refine loopQ_ret ?_ | refine endQ_ret ?_ | refine endQ_norm ?_ | refine endE_ret ?_ | refine endE_norm ?_ | refine endI_ret ?_ | refine endI_norm ?_)
      | (with_reducible refine wp_regK fun K hK => ?_
         simp
         repeat' (with_reducible first | refine hK _ ?_ | (refine psel ?_ ?_ <;> (intro hc; (try rw [Decidable.not_not] at hc); first | (exfalso; omega) | (try simp [hc]))))
         all_goals (clear hK; clear K))
      | (with_reducible refine wp_condE ?_
         refine ⟨_, rfl, ?_, ?_⟩ <;> (intro hc; (try simp at hc); (all_goals first | (exfalso; omega) | skip))))
    all_goals first | (simp_all [pf342]; done) | (simp_all [pf342]; omega)
  · unfold pl342_0
    simp only [List.length_cons] at h
    simp only [waitsF] at h2
    have hw : IntKind.wrap .i64 ((pre.length : Int) + 1) = (pre.length : Int) + 1 := wrap_i64 (by omega) (by omega)
    repeat' (first
      | with_reducible (first | refine wp_seq ?_ | refine wp_blk ?_ | refine wp_skip ?_ | refine wp_exit ?_ | refine wp_ret ?_ | refine seqQ_norm ?_ | refine seqQ_ret ?_ | refine seqQ_exit ?_ | refine blkQ_norm ?_ | refine blkQ_ret ?_ | refine blkQ_exit ?_ | refine loopQ_norm ?_ | refine loopQ_exit ?_ | refine loopQ_ret ?_ | refine endQ_ret ?_ | refine endQ_norm ?_ | refine endE_ret ?_ | refine endE_norm ?_ | refine endI_ret ?_ | refine endI_norm ?_)
      | (with_reducible refine wp_regK fun K hK => ?_
         simp[hw]
         repeat' (with_reducible first | refine hK _ ?_ | (refine psel ?_ ?_ <;> (intro hc; (try rw [Decidable.not_not] at hc); first | (exfalso; omega) | (try simp [hc, hw]))))
         all_goals (clear hK; clear K))
      | (with_reducible refine wp_condE ?_
         refine ⟨_, rfl, ?_, ?_⟩ <;> (intro hc; (try simp at hc); (all_goals first | (exfalso; omega) | skip))))
    all_goals first | (refine ⟨(pre ++ [d], rest, IntKind.wrap .i64 (a + 1)), ?_, ⟨?_, ?_⟩, ?_⟩; (focus (first | (simp; done) | (simp_all; done))); (focus (simp; done)); (focus (refine Eq.trans ?_ h2; clear h2; first | (simp [*]; done) | (simp_all; done) | (split <;> simp_all <;> omega) | (split <;> first | (exfalso; omega) | (simp_all; done)))); (focus (simp; done))) | (refine ⟨(pre ++ [d], rest, a), ?_, ⟨?_, ?_⟩, ?_⟩; (focus (first | (simp; done) | (simp_all; done))); (focus (simp; done)); (focus (refine Eq.trans ?_ h2; clear h2; first | (simp [*]; done) | (simp_all; done) | (split <;> simp_all <;> omega) | (split <;> first | (exfalso; omega) | (simp_all; done)))); (focus (simp; done))) | (simp_all [pf342]; done) | (simp_all [pf342]; omega) | (split at h2 <;> first | (exfalso; omega) | (simp_all [pf342]; done))

@[simp] theorem t87 (x a b : Int) : Gw TT 87 [vi x, vi a, vi b] = some (vb (decide (a ≤ x) && decide (x ≤ b)), []) := by
  refine Gw_of (F := pf87) rfl rfl ?_
  show Wp _ pb87 _ _
  unfold pb87
  repeat' (first
    | with_reducible (first | refine wp_seq ?_ | refine wp_blk ?_ | refine wp_skip ?_ | refine wp_exit ?_ | refine wp_ret ?_ | refine seqQ_norm ?_ | refine seqQ_ret ?_ | refine seqQ_exit ?_ | refine blkQ_norm ?_ | refine blkQ_ret ?_ | refine blkQ_exit ?_ | refine loopQ_norm ?_ | refine loopQ_exit ?_ | refine loopQ_ret ?_ | refine endQ_ret ?_ | refine endQ_norm ?_ | refine endE_ret ?_ | refine endE_norm ?_ | refine endI_ret ?_ | refine endI_norm ?_)
    | (with_reducible refine wp_regK fun K hK => ?_
       simp
       repeat' (with_reducible first | refine hK _ ?_ | (refine psel ?_ ?_ <;> (intro hc; (try rw [Decidable.not_not] at hc); first | (exfalso; omega) | (try simp [hc]))))
       all_goals (clear hK; clear K))
    | (with_reducible refine wp_condE ?_
       refine ⟨_, rfl, ?_, ?_⟩ <;> (intro hc; (try simp at hc); (all_goals first | (exfalso; omega) | skip))))
  all_goals first | (simp_all [pf87]; done) | (simp_all [pf87]; omega)

@[simp] theorem t377 (x a b : Int) : Gw TT 377 [vi x, vi a, vi b] = some (vb (decide (a ≤ x) && decide (x ≤ b)), []) := by
  refine Gw_of (F := pf377) rfl rfl ?_
  show Wp _ pb377 _ _
  unfold pb377
  repeat' (first
    | with_reducible (first | refine wp_seq ?_ | refine wp_blk ?_ | refine wp_skip ?_ | refine wp_exit ?_ | refine wp_ret ?_ | refine seqQ_norm ?_ | refine seqQ_ret ?_ | refine seqQ_exit ?_ | refine blkQ_norm ?_ | refine blkQ_ret ?_ | refine blkQ_exit ?_ | refine loopQ_norm ?_ | refine loopQ_exit ?_ | refine loopQ_ret ?_ | refine endQ_ret ?_ | refine endQ_norm ?_ | refine endE_ret ?_ | refine endE_norm ?_ | refine endI_ret ?_ | refine endI_norm ?_)
    | (with_reducible refine wp_regK fun K hK => ?_
       simp
       repeat' (with_reducible first | refine hK _ ?_ | (refine psel ?_ ?_ <;> (intro hc; (try rw [Decidable.not_not] at hc); first | (exfalso; omega) | (try simp [hc]))))
       all_goals (clear hK; clear K))
    | (with_reducible refine wp_condE ?_
       refine ⟨_, rfl, ?_, ?_⟩ <;> (intro hc; (try simp at hc); (all_goals first | (exfalso; omega) | skip))))
  all_goals first | (simp_all [pf377]; done) | (simp_all [pf377]; omega)

def hasDeadF (b : Int) : List XDead → Bool
  | [] => false
  | d :: l => if d.Buf = b then true else hasDeadF b l

@[simp] theorem t23 (k0 : Bool) (l : List XDead) (b : Int) (h : l.length ≤ 1048576) : Gw TT 23 [.one (.ro k0 (.sl 3 (l.map XDead.e))), vi b] = some (vb (hasDeadF b l), []) := by
  refine Gw_of (F := pf23) rfl rfl ?_
  show Wp _ pb23 _ _
  unfold pb23
  repeat' (first
    | with_reducible (first | refine wp_seq ?_ | refine wp_blk ?_ | refine wp_skip ?_ | refine wp_exit ?_ | refine wp_ret ?_ | refine seqQ_norm ?_ | refine seqQ_ret ?_ | refine seqQ_exit ?_ | refine blkQ_norm ?_ | refine blkQ_ret ?_ | refine blkQ_exit ?_ | refine loopQ_norm ?_ | refine loopQ_exit ?_ | refine loopQ_ret ?_ | refine endQ_ret ?_ | refine endQ_norm ?_ | refine endE_ret ?_ | refine endE_norm ?_ | refine endI_ret ?_ | refine endI_norm ?_)
    | (with_reducible refine wp_regK fun K hK => ?_
       simp
       repeat' (with_reducible first | refine hK _ ?_ | (refine psel ?_ ?_ <;> (intro hc; (try rw [Decidable.not_not] at hc); first | (exfalso; omega) | (try simp [hc]))))
       all_goals (clear hK; clear K))
    | (with_reducible refine wp_condE ?_
       refine ⟨_, rfl, ?_, ?_⟩ <;> (intro hc; (try simp at hc); (all_goals first | (exfalso; omega) | skip))))
  refine wp_loopI (σ := List (XDead) × List (XDead)) (fun s => [(1, AV.v false (di b), none), (7, AV.v k0 (D.sl 3 (l.map XDead.e)), none), (8, AV.v false (di (l.length : Nat)), none), (9, AV.v false (di ((s.1.length : Nat) : Int)), none)]) (fun s => l = s.1 ++ s.2 ∧ hasDeadF b s.2 = hasDeadF b l) (fun s => s.2.length) ([], l) (by simp) ⟨rfl, rfl⟩ ?_
  rintro ⟨pre, rest⟩ ⟨h1, h2⟩
  simp only at h1 h2
  subst h1
  simp only [List.length_append, List.length_cons] at h
  rcases rest with _ | ⟨d, rest⟩
  · unfold pl23_0
    simp only [hasDeadF] at h2
    repeat' (first
      | with_reducible (first | refine wp_seq ?_ | refine wp_blk ?_ | refine wp_skip ?_ | refine wp_exit ?_ | refine wp_ret ?_ | refine seqQ_norm ?_ | refine seqQ_ret ?_ | refine seqQ_exit ?_ | refine blkQ_norm ?_ | refine blkQ_ret ?_ | refine blkQ_exit ?_ | refine loopQ_norm ?_ | refine loopQ_exit ?_ | refine loopQ_ret ?_ | refine endQ_ret ?_ | refine endQ_norm ?_ | refine endE_ret ?_ | refine endE_norm ?_ | refine endI_ret ?_ | refine endI_norm ?_)
      | (with_reducible refine wp_regK fun K hK => ?_
         simp
         repeat' (with_reducible first | refine hK _ ?_ | (refine psel ?_ ?_ <;> (intro hc; (try rw [Decidable.not_not] at hc); first | (exfalso; omega) | (try simp [hc]))))
         all_goals (clear hK; clear K))
      | (with_reducible refine wp_condE ?_
         refine ⟨_, rfl, ?_, ?_⟩ <;> (intro hc; (try simp at hc); (all_goals first | (exfalso; omega) | skip))))
    all_goals first | (simp_all [pf23]; done) | (simp_all [pf23]; omega)
  · unfold pl23_0
    simp only [List.length_cons] at h
    simp only [hasDeadF] at h2
    have hw : IntKind.wrap .i64 ((pre.length : Int) + 1) = (pre.length : Int) + 1 := wrap_i64 (by omega) (by omega)
    repeat' (first
      | with_reducible (first | refine wp_seq ?_ | refine wp_blk ?_ | refine wp_skip ?_ | refine wp_exit ?_ | refine wp_ret ?_ | refine seqQ_norm ?_ | refine seqQ_ret ?_ | refine seqQ_exit ?_ | refine blkQ_norm ?_ | refine blkQ_ret ?_ | refine blkQ_exit ?_ | refine loopQ_norm ?_ | refine loopQ_exit ?_ | refine loopQ_ret ?_ | refine endQ_ret ?_ | refine endQ_norm ?_ | refine endE_ret ?_ | refine endE_norm ?_ | refine endI_ret ?_ | refine endI_norm ?_)
      | (with_reducible refine wp_regK fun K hK => ?_
         simp[hw]
         repeat' (with_reducible first | refine hK _ ?_ | (refine psel ?_ ?_ <;> (intro hc; (try rw [Decidable.not_not] at hc); first | (exfalso; omega) | (try simp [hc, hw]))))
         all_goals (clear hK; clear K))
      | (with_reducible refine wp_condE ?_
         refine ⟨_, rfl, ?_, ?_⟩ <;> (intro hc; (try simp at hc); (all_goals first | (exfalso; omega) | skip))))
    all_goals first | (refine ⟨(pre ++ [d], rest), ?_, ⟨?_, ?_⟩, ?_⟩; (focus (first | (simp; done) | (simp_all; done))); (focus (simp; done)); (focus (refine Eq.trans ?_ h2; clear h2; first | (simp [*]; done) | (simp_all; done) | (split <;> simp_all <;> omega) | (split <;> first | (exfalso; omega) | (simp_all; done)))); (focus (simp; done))) | (simp_all [pf23]; done) | (simp_all [pf23]; omega) | (split at h2 <;> first | (exfalso; omega) | (simp_all [pf23]; done))

@[simp] theorem t302 (k0 : Bool) (l : List XDead) (b : Int) (h : l.length ≤ 1048576) : Gw TT 302 [.one (.ro k0 (.sl 3 (l.map XDead.e))), vi b] = some (vb (hasDeadF b l), []) := by
  refine Gw_of (F := pf302) rfl rfl ?_
  show Wp _ pb302 _ _
  unfold pb302
  repeat' (first
    | with_reducible (first | refine wp_seq ?_ | refine wp_blk ?_ | refine wp_skip ?_ | refine wp_exit ?_ | refine wp_ret ?_ | refine seqQ_norm ?_ | refine seqQ_ret ?_ | refine seqQ_exit ?_ | refine blkQ_norm ?_ | refine blkQ_ret ?_ | refine blkQ_exit ?_ | refine loopQ_norm ?_ | refine loopQ_exit ?_ | refine loopQ_ret ?_ | refine endQ_ret ?_ | refine endQ_norm ?_ | refine endE_ret ?_ | refine endE_norm ?_ | refine endI_ret ?_ | refine endI_norm ?_)
    | (with_reducible refine wp_regK fun K hK => ?_
       simp
       repeat' (with_reducible first | refine hK _ ?_ | (refine psel ?_ ?_ <;> (intro hc; (try rw [Decidable.not_not] at hc); first | (exfalso; omega) | (try simp [hc]))))
       all_goals (clear hK; clear K))
    | (with_reducible refine wp_condE ?_
       refine ⟨_, rfl, ?_, ?_⟩ <;> (intro hc; (try simp at hc); (all_goals first | (exfalso; omega) | skip))))
  refine wp_loopI (σ := List (XDead) × List (XDead)) (fun s => [(0, AV.v k0 (D.sl 3 (l.map XDead.e)), none), (1, AV.v false (di b), none), (5, AV.v false (di ((s.1.length : Nat) : Int)), none)]) (fun s => l = s.1 ++ s.2 ∧ hasDeadF b s.2 = hasDeadF b l) (fun s => s.2.length) ([], l) (by simp) ⟨rfl, rfl⟩ ?_
  rintro ⟨pre, rest⟩ ⟨h1, h2⟩
  simp only at h1 h2
  subst h1
  simp only [List.length_append, List.length_cons] at h
  rcases rest with _ | ⟨d, rest⟩
  · unfold pl302_0
    simp only [hasDeadF] at h2
    repeat' (first
      | with_reducible (first | refine wp_seq ?_ | refine wp_blk ?_ | refine wp_skip ?_ | refine wp_exit ?_ | refine wp_ret ?_ | refine seqQ_norm ?_ | refine seqQ_ret ?_ | refine seqQ_exit ?_ | refine blkQ_norm ?_ | refine blkQ_ret ?_ | refine blkQ_exit ?_ | refine loopQ_norm ?_ | refine loopQ_exit ?_ | refine loopQ_ret ?_ | refine endQ_ret ?_ | refine endQ_norm ?_ | refine endE_ret ?_ | refine endE_norm ?_ | refine endI_ret ?_ | refine endI_norm ?_)
      | (with_reducible refine wp_regK fun K hK => ?_
         simp
         repeat' (with_reducible first | refine hK _ ?_ | (refine psel ?_ ?_ <;> (intro hc; (try rw [Decidable.not_not] at hc); first | (exfalso; omega) | (try simp [hc]))))
         all_goals (clear hK; clear K))
      | (with_reducible refine wp_condE ?_
         refine ⟨_, rfl, ?_, ?_⟩ <;> (intro hc; (try simp at hc); (all_goals first | (exfalso; omega) | skip))))
    all_goals first | (simp_all [pf302]; done) | (simp_all [pf302]; omega)
  · unfold pl302_0
    simp only [List.length_cons] at h
    simp only [hasDeadF] at h2
    have hw : IntKind.wrap .i64 ((pre.length : Int) + 1) = (pre.length : Int) + 1 := wrap_i64 (by omega) (by omega)
    repeat' (first
      | with_reducible (first | refine wp_seq ?_ | refine wp_blk ?_ | refine wp_skip ?_ | refine wp_exit ?_ | refine wp_ret ?_ | refine seqQ_norm ?_ | refine seqQ_ret ?_ | refine seqQ_exit ?_ | refine blkQ_norm ?_ | refine blkQ_ret ?_ | refine blkQ_exit ?_ | refine loopQ_norm ?_ | refine loopQ_exit ?_ | refine loopQ_ret ?_ | refine endQ_ret ?_ | refine endQ_norm ?_ | refine endE_ret ?_ | refine endE_norm ?_ | refine endI_ret ?_ | refine endI_norm ?_)
      | (with_reducible refine wp_regK fun K hK => ?_
         simp[hw]
         repeat' (with_reducible first | refine hK _ ?_ | (refine psel ?_ ?_ <;> (intro hc; (try rw [Decidable.not_not] at hc); first | (exfalso; omega) | (try simp [hc, hw]))))
         all_goals (clear hK; clear K))
      | (with_reducible refine wp_condE ?_
         refine ⟨_, rfl, ?_, ?_⟩ <;> (intro hc; (try simp at hc); (all_goals first | (exfalso; omega) | skip))))
    all_goals first | (refine ⟨(pre ++ [d], rest), ?_, ⟨?_, ?_⟩, ?_⟩; (focus (first | (simp; done) | (simp_all; done))); (focus (simp; done)); (focus (refine Eq.trans ?_ h2; clear h2; first | (simp [*]; done) | (simp_all; done) | (split <;> simp_all <;> omega) | (split <;> first | (exfalso; omega) | (simp_all; done)))); (focus (simp; done))) | (simp_all [pf302]; done) | (simp_all [pf302]; omega) | (split at h2 <;> first | (exfalso; omega) | (simp_all [pf302]; done))

theorem split_at {α : Type} (l : List α) (i : Nat) (h : i < l.length) : ∃ pre x rest, l = pre ++ x :: rest ∧ pre.length = i :=
  ⟨l.take i, l[i], l.drop (i + 1), by simp, by simp; omega⟩

@[simp] theorem take_mid {α : Type} {n : Nat} (l r : List α) (h : n = l.length) : (l ++ r).take n = l := by subst h; simp

@[simp] theorem bytesStr_map (l : List Int) : bytesStr (l.map eb) = some (l.map fun n => UInt8.ofNat n.toNat) := by
  induction l with
  | nil => rfl
  | cons n l ih =>
    have : bytesStr (List.map eb (n :: l)) = match bytesStr (l.map eb) with
      | some bs => some (UInt8.ofNat n.toNat :: bs)
      | none => none := rfl
    rw [this, ih]; rfl

@[simp] theorem flatD_nil : flatD [] = true := rfl

@[simp] theorem flatD_map {α : Type} (f : α → List D) (l : List α) (h : ∀ x, (f x).all D.scal = true) : flatD (l.map f) = true := by
  simp only [flatD, List.all_map, List.all_eq_true, Function.comp]
  exact fun x _ => List.all_eq_true.1 (h x)

@[simp] theorem flatD_one (e : List D) (l : List (List D)) : flatD (e :: l) = (e.all D.scal && flatD l) := rfl

@[simp] theorem flatD_app (l m : List (List D)) : flatD (l ++ m) = (flatD l && flatD m) := by simp [flatD]

@[simp] theorem live_int (k : IntKind) (n : Int) : (D.int k n).live = true := rfl

@[simp] theorem live_bool (b : Bool) : (D.bool b).live = true := rfl

@[simp] theorem live_str (s : ByteArray) : (D.str s).live = true := rfl

@[simp] theorem live_sl (sz : Nat) (es : List (List D)) : (D.sl sz es).live = true := rfl

@[simp] theorem ba_one (x : UInt8) : (ByteArray.mk #[x]).size = 1 := rfl

def withoutF (l : List XDead) (i : Int) : List XDead := if 0 ≤ i ∧ i < (l.length : Int) then l.take i.toNat ++ l.drop (i.toNat + 1) else l

def woF (i : Int) : Int → List XDead → List XDead
  | _, [] => []
  | n, d :: l => if n = i then woF i (n + 1) l else d :: woF i (n + 1) l

theorem woF_past (i : Int) : ∀ (l : List XDead) (n : Int), i < n → woF i n l = l
  | [], _, _ => rfl
  | d :: l, n, h => by rw [woF, if_neg (by omega), woF_past i l (n + 1) (by omega)]

theorem woF_eq (i : Int) : ∀ (l : List XDead) (n : Int), n ≤ i → woF i n l = l.take (i - n).toNat ++ l.drop ((i - n).toNat + 1)
  | [], _, _ => by simp [woF]
  | d :: l, n, h => by
    rw [woF]
    by_cases e : n = i
    · subst e
      rw [if_pos rfl, woF_past n l (n + 1) (by omega)]
      simp
    · rw [if_neg e, woF_eq i l (n + 1) (by omega), show (i - n).toNat = (i - (n + 1)).toNat + 1 from by omega]
      simp

theorem woF_without (l : List XDead) (i : Int) : woF i 0 l = withoutF l i := by
  unfold withoutF
  split
  · rename_i h
    rw [woF_eq i l 0 (by omega)]
    simp
  · rename_i h
    by_cases h0 : 0 ≤ i
    · rw [woF_eq i l 0 h0, List.take_of_length_le (by omega), List.drop_of_length_le (by omega)]
      simp
    · rw [woF_past i l 0 (by omega)]

theorem withoutF_mid (pre : List XDead) (d : XDead) (rest : List XDead) : withoutF (pre ++ d :: rest) (pre.length : Int) = pre ++ rest := by
  unfold withoutF
  rw [if_pos ⟨by omega, by simp only [List.length_append, List.length_cons]; omega⟩]
  simp

theorem withoutF_out {l : List XDead} {i : Int} (h : ¬ (0 ≤ i ∧ i < (l.length : Int))) : withoutF l i = l := by
  unfold withoutF; rw [if_neg h]

theorem withoutF_len (l : List XDead) (i : Int) : (withoutF l i).length ≤ l.length := by
  unfold withoutF
  split
  · simp; omega
  · exact Nat.le_refl _

@[simp] theorem take_all1 {α : Type} {n : Nat} (l r : List α) (x : α) (h : n = l.length + (r.length + 1)) : (l ++ x :: r).take n = l ++ x :: r := by
  rw [List.take_of_length_le]
  simp only [List.length_append, List.length_cons]
  omega

@[simp] theorem drop_mid1 {α : Type} {n : Nat} (l r : List α) (x : α) (h : n = l.length + 1) : (l ++ x :: r).drop n = r := by
  subst h
  rw [List.drop_append]
  simp

@[simp] theorem t64 (k0 : Bool) (l : List XDead) (i : Int) (h : l.length ≤ 1048576) : Gw TT 64 [.one (.ro k0 (.sl 3 (l.map XDead.e))), vi i] = some (.one (.own (.sl 3 ((withoutF l i).map XDead.e))), []) := by
  refine Gw_of (F := pf64) rfl rfl ?_
  show Wp _ pb64 _ _
  unfold pb64
  by_cases hb : 0 ≤ i ∧ i < (l.length : Int)
  · obtain ⟨pre, d, rest, rfl, hp⟩ := split_at l i.toNat (by omega)
    obtain rfl : i = (pre.length : Int) := by omega
    simp only [List.length_append, List.length_cons] at h hb
    have hw : IntKind.wrap .i64 ((pre.length : Int) + 1) = (pre.length : Int) + 1 := wrap_i64 (by omega) (by omega)
    have hm := withoutF_mid pre d rest
    have f1 : (pre.length : Int) ≤ (pre.length : Int) + ((rest.length : Int) + 1) := by omega
    have f2 : (pre.length : Int) + 1 ≤ (pre.length : Int) + ((rest.length : Int) + 1) := by omega
    have f3 : ((pre.length : Int) + 1).toNat = pre.length + 1 := by omega
    have f4 : (0 : Int) ≤ (pre.length : Int) + 1 := by omega
    repeat' (first
      | with_reducible (first | refine wp_seq ?_ | refine wp_blk ?_ | refine wp_skip ?_ | refine wp_exit ?_ | refine wp_ret ?_ | refine seqQ_norm ?_ | refine seqQ_ret ?_ | refine seqQ_exit ?_ | refine blkQ_norm ?_ | refine blkQ_ret ?_ | refine blkQ_exit ?_ | refine loopQ_norm ?_ | refine loopQ_exit ?_ | refine loopQ_ret ?_ | refine endQ_ret ?_ | refine endQ_norm ?_ | refine endE_ret ?_ | refine endE_norm ?_ | refine endI_ret ?_ | refine endI_norm ?_)
      | (with_reducible refine wp_regK fun K hK => ?_
         simp[hw, f1, f2, f3, f4]
         repeat' (with_reducible first | refine hK _ ?_ | (refine psel ?_ ?_ <;> (intro hc; (try rw [Decidable.not_not] at hc); first | (exfalso; omega) | (try simp [hc, hw, f1, f2, f3, f4]))))
         all_goals (clear hK; clear K))
      | (with_reducible refine wp_condE ?_
         refine ⟨_, rfl, ?_, ?_⟩ <;> (intro hc; (try simp at hc); (all_goals first | (exfalso; omega) | skip))))
    all_goals first | (simp_all [pf64]; done) | (exfalso; omega)
  · have hf := withoutF_out hb
    repeat' (first
      | with_reducible (first | refine wp_seq ?_ | refine wp_blk ?_ | refine wp_skip ?_ | refine wp_exit ?_ | refine wp_ret ?_ | refine seqQ_norm ?_ | refine seqQ_ret ?_ | refine seqQ_exit ?_ | refine blkQ_norm ?_ | refine blkQ_ret ?_ | refine blkQ_exit ?_ | refine loopQ_norm ?_ | refine loopQ_exit ?_ | refine loopQ_ret ?_ | refine endQ_ret ?_ | refine endQ_norm ?_ | refine endE_ret ?_ | refine endE_norm ?_ | refine endI_ret ?_ | refine endI_norm ?_)
      | (with_reducible refine wp_regK fun K hK => ?_
         simp
         repeat' (with_reducible first | refine hK _ ?_ | (refine psel ?_ ?_ <;> (intro hc; (try rw [Decidable.not_not] at hc); first | (exfalso; omega) | (try simp [hc]))))
         all_goals (clear hK; clear K))
      | (with_reducible refine wp_condE ?_
         refine ⟨_, rfl, ?_, ?_⟩ <;> (intro hc; (try simp at hc); (all_goals first | (exfalso; omega) | skip))))
    all_goals first | (simp_all [pf64]; done) | (exfalso; omega)

@[simp] theorem t345 (k0 : Bool) (l : List XDead) (i : Int) (h : l.length ≤ 1048576) : Gw TT 345 [.one (.ro k0 (.sl 3 (l.map XDead.e))), vi i] = some (.one (.own (.sl 3 ((withoutF l i).map XDead.e))), []) := by
  refine Gw_of (F := pf345) rfl rfl ?_
  show Wp _ pb345 _ _
  unfold pb345
  repeat' (first
    | with_reducible (first | refine wp_seq ?_ | refine wp_blk ?_ | refine wp_skip ?_ | refine wp_exit ?_ | refine wp_ret ?_ | refine seqQ_norm ?_ | refine seqQ_ret ?_ | refine seqQ_exit ?_ | refine blkQ_norm ?_ | refine blkQ_ret ?_ | refine blkQ_exit ?_ | refine loopQ_norm ?_ | refine loopQ_exit ?_ | refine loopQ_ret ?_ | refine endQ_ret ?_ | refine endQ_norm ?_ | refine endE_ret ?_ | refine endE_norm ?_ | refine endI_ret ?_ | refine endI_norm ?_)
    | (with_reducible refine wp_regK fun K hK => ?_
       simp
       repeat' (with_reducible first | refine hK _ ?_ | (refine psel ?_ ?_ <;> (intro hc; (try rw [Decidable.not_not] at hc); first | (exfalso; omega) | (try simp [hc]))))
       all_goals (clear hK; clear K))
    | (with_reducible refine wp_condE ?_
       refine ⟨_, rfl, ?_, ?_⟩ <;> (intro hc; (try simp at hc); (all_goals first | (exfalso; omega) | skip))))
  refine wp_loopI (σ := List (XDead) × List (XDead) × List (XDead)) (fun s => [(0, AV.v k0 (D.sl 3 (l.map XDead.e)), none), (1, AV.v false (di i), none), (5, AV.pl 5 0 [], some (Rt.vir [C.own (D.sl 3 ((s.2.2).map XDead.e))])), (6, AV.v false (di ((s.1.length : Nat) : Int)), none)]) (fun s => l = s.1 ++ s.2.1 ∧ s.2.2 ++ woF i ((s.1.length : Nat) : Int) s.2.1 = woF i (0 : Int) l ∧ s.2.2.length ≤ s.1.length) (fun s => s.2.1.length) ([], l, []) (by simp) ⟨rfl, by first | rfl | simp, Nat.le_refl _⟩ ?_
  rintro ⟨pre, rest, a⟩ ⟨h1, h2, h3⟩
  simp only at h1 h2 h3
  subst h1
  simp only [List.length_append, List.length_cons] at h
  rcases rest with _ | ⟨d, rest⟩
  · unfold pl345_0
    try simp only [woF, List.append_nil] at h2
    repeat' (first
      | with_reducible (first | refine wp_seq ?_ | refine wp_blk ?_ | refine wp_skip ?_ | refine wp_exit ?_ | refine wp_ret ?_ | refine seqQ_norm ?_ | refine seqQ_ret ?_ | refine seqQ_exit ?_ | refine blkQ_norm ?_ | refine blkQ_ret ?_ | refine blkQ_exit ?_ | refine loopQ_norm ?_ | refine loopQ_exit ?_ | refine loopQ_ret ?_ | refine endQ_ret ?_ | refine endQ_norm ?_ | refine endE_ret ?_ | refine endE_norm ?_ | refine endI_ret ?_ | refine endI_norm ?_)
      | (with_reducible refine wp_regK fun K hK => ?_
         simp
         repeat' (with_reducible first | refine hK _ ?_ | (refine psel ?_ ?_ <;> (intro hc; (try rw [Decidable.not_not] at hc); first | (exfalso; omega) | (try simp [hc]))))
         all_goals (clear hK; clear K))
      | (with_reducible refine wp_condE ?_
         refine ⟨_, rfl, ?_, ?_⟩ <;> (intro hc; (try simp at hc); (all_goals first | (exfalso; omega) | skip))))
    all_goals first | (simp_all [pf345, woF_without]; done) | (simp_all [pf345, woF_without]; omega)
  · unfold pl345_0
    simp only [List.length_cons] at h
    try simp only [woF] at h2
    have hw : IntKind.wrap .i64 ((pre.length : Int) + 1) = (pre.length : Int) + 1 := wrap_i64 (by omega) (by omega)
    repeat' (first
      | with_reducible (first | refine wp_seq ?_ | refine wp_blk ?_ | refine wp_skip ?_ | refine wp_exit ?_ | refine wp_ret ?_ | refine seqQ_norm ?_ | refine seqQ_ret ?_ | refine seqQ_exit ?_ | refine blkQ_norm ?_ | refine blkQ_ret ?_ | refine blkQ_exit ?_ | refine loopQ_norm ?_ | refine loopQ_exit ?_ | refine loopQ_ret ?_ | refine endQ_ret ?_ | refine endQ_norm ?_ | refine endE_ret ?_ | refine endE_norm ?_ | refine endI_ret ?_ | refine endI_norm ?_)
      | (with_reducible refine wp_regK fun K hK => ?_
         simp[hw]
         repeat' (with_reducible first | refine hK _ ?_ | (refine psel ?_ ?_ <;> (intro hc; (try rw [Decidable.not_not] at hc); first | (exfalso; omega) | (try simp [hc, hw]))))
         all_goals (clear hK; clear K))
      | (with_reducible refine wp_condE ?_
         refine ⟨_, rfl, ?_, ?_⟩ <;> (intro hc; (try simp at hc); (all_goals first | (exfalso; omega) | skip))))
    all_goals first | (refine ⟨(pre ++ [d], rest, a ++ [d]), ?_, ⟨?_, ?_, ?_⟩, ?_⟩; (focus (first | (simp; done) | (simp_all; done))); (focus (simp; done)); (focus (refine Eq.trans ?_ h2; clear h2; first | (simp [*]; done) | (simp_all; done)));  (focus (simp only [List.length_append, List.length_cons, List.length_nil]; omega)); (focus (simp; done))) | (refine ⟨(pre ++ [d], rest, a), ?_, ⟨?_, ?_, ?_⟩, ?_⟩; (focus (first | (simp; done) | (simp_all; done))); (focus (simp; done)); (focus (refine Eq.trans ?_ h2; clear h2; first | (simp [*]; done) | (simp_all; done)));  (focus (simp only [List.length_append, List.length_cons, List.length_nil]; omega)); (focus (simp; done))) | (simp_all [pf345, woF_without]; done) | (exfalso; omega)

@[simp] theorem take_len_map {α β : Type} (f : α → β) (l : List α) : (l.map f).take l.length = l.map f := by
  rw [List.take_of_length_le]; simp

@[simp] theorem flatD_drop_map {α : Type} (f : α → List D) (l : List α) (n : Nat) (h : ∀ x, (f x).all D.scal = true) : flatD ((l.map f).drop n) = true := by
  rw [← List.map_drop]; exact flatD_map f _ h

@[simp] theorem flatD_take_map {α : Type} (f : α → List D) (l : List α) (n : Nat) (h : ∀ x, (f x).all D.scal = true) : flatD ((l.map f).take n) = true := by
  rw [← List.map_take]; exact flatD_map f _ h

structure XCur where
  b : List Int
  i : Nat
  h : Int
  hb : b.length ≤ 1048576

theorem and255 (x : Nat) : 0 ≤ IntKind.wrap .i64 ((x &&& 255 % 2 ^ IntKind.i64.bits : Nat) : Int) ∧ IntKind.wrap .i64 ((x &&& 255 % 2 ^ IntKind.i64.bits : Nat) : Int) ≤ 255 := by
  have h0 : 255 % 2 ^ IntKind.i64.bits = 255 := by decide
  rw [h0]
  have h : x &&& 255 ≤ 255 := Nat.and_le_right
  rw [wrap_i64 (by omega) (by omega)]
  omega

theorem d379_ex (k0 : Bool) (b : List Int) (hb : b.length ≤ 1048576) : ∃ h : Int, Gw TT 379 [.one (.ro k0 (.sl 1 (b.map eb)))] = some (.ptr [.ro k0 (.sl 1 (b.map eb)), .ro false (di 0), .ro false (di h)], []) := by
  suffices h0 : ∃ y, Gw TT 379 [.one (.ro k0 (.sl 1 (b.map eb)))] = some y ∧ ∃ h : Int, y = (.ptr [.ro k0 (.sl 1 (b.map eb)), .ro false (di 0), .ro false (di h)], []) by
    obtain ⟨y, h1, h, rfl⟩ := h0
    exact ⟨h, h1⟩
  refine Gw_ofE (F := pf379) rfl rfl ?_
  show Wp _ pb379 _ _
  unfold pb379
  repeat' (first
    | with_reducible (first | refine wp_seq ?_ | refine wp_blk ?_ | refine wp_skip ?_ | refine wp_exit ?_ | refine wp_ret ?_ | refine seqQ_norm ?_ | refine seqQ_ret ?_ | refine seqQ_exit ?_ | refine blkQ_norm ?_ | refine blkQ_ret ?_ | refine blkQ_exit ?_ | refine loopQ_norm ?_ | refine loopQ_exit ?_ | refine loopQ_ret ?_ | refine endQ_ret ?_ | refine endQ_norm ?_ | refine endE_ret ?_ | refine endE_norm ?_ | refine endI_ret ?_ | refine endI_norm ?_)
    | (with_reducible refine wp_regK fun K hK => ?_
       simp
       repeat' (with_reducible first | refine hK _ ?_ | (refine psel ?_ ?_ <;> (intro hc; (try rw [Decidable.not_not] at hc); first | (exfalso; omega) | (try simp [hc]))))
       all_goals (clear hK; clear K))
    | (with_reducible refine wp_condE ?_
       refine ⟨_, rfl, ?_, ?_⟩ <;> (intro hc; (try simp at hc); (all_goals first | (exfalso; omega) | skip))))
  refine wp_loopI (σ := List Int × List Int × Int) (fun s => [(0, AV.v k0 (D.sl 1 (b.map eb)), none), (3, AV.v false (di s.2.2), none), (4, AV.v false (di ((s.1.length : Nat) : Int)), none)]) (fun s => b = s.1 ++ s.2.1) (fun s => s.2.1.length) ([], b, IntKind.wrap .i64 (154242 + (b.length : Int))) (by simp) rfl ?_
  rintro ⟨pre, rest, a⟩ h1
  simp only at h1
  subst h1
  simp only [List.length_append, List.length_cons] at hb
  rcases rest with _ | ⟨d, rest⟩
  · unfold pl379_0
    repeat' (first
      | with_reducible (first | refine wp_seq ?_ | refine wp_blk ?_ | refine wp_skip ?_ | refine wp_exit ?_ | refine wp_ret ?_ | refine seqQ_norm ?_ | refine seqQ_ret ?_ | refine seqQ_exit ?_ | refine blkQ_norm ?_ | refine blkQ_ret ?_ | refine blkQ_exit ?_ | refine loopQ_norm ?_ | refine loopQ_exit ?_ | refine loopQ_ret ?_ | refine endQ_ret ?_ | refine endQ_norm ?_ | refine endE_ret ?_ | refine endE_norm ?_ | refine endI_ret ?_ | refine endI_norm ?_)
      | (with_reducible refine wp_regK fun K hK => ?_
         simp
         repeat' (with_reducible first | refine hK _ ?_ | (refine psel ?_ ?_ <;> (intro hc; (try rw [Decidable.not_not] at hc); first | (exfalso; omega) | (try simp [hc]))))
         all_goals (clear hK; clear K))
      | (with_reducible refine wp_condE ?_
         refine ⟨_, rfl, ?_, ?_⟩ <;> (intro hc; (try simp at hc); (all_goals first | (exfalso; omega) | skip))))
    all_goals exact ⟨_, by simp [pf379]; rfl, a, by simp⟩
  · unfold pl379_0
    simp only [List.length_cons] at hb
    have hw : IntKind.wrap .i64 ((pre.length : Int) + 1) = (pre.length : Int) + 1 := wrap_i64 (by omega) (by omega)
    repeat' (first
      | with_reducible (first | refine wp_seq ?_ | refine wp_blk ?_ | refine wp_skip ?_ | refine wp_exit ?_ | refine wp_ret ?_ | refine seqQ_norm ?_ | refine seqQ_ret ?_ | refine seqQ_exit ?_ | refine blkQ_norm ?_ | refine blkQ_ret ?_ | refine blkQ_exit ?_ | refine loopQ_norm ?_ | refine loopQ_exit ?_ | refine loopQ_ret ?_ | refine endQ_ret ?_ | refine endQ_norm ?_ | refine endE_ret ?_ | refine endE_norm ?_ | refine endI_ret ?_ | refine endI_norm ?_)
      | (with_reducible refine wp_regK fun K hK => ?_
         simp[hw]
         repeat' (with_reducible first | refine hK _ ?_ | (refine psel ?_ ?_ <;> (intro hc; (try rw [Decidable.not_not] at hc); first | (exfalso; omega) | (try simp [hc, hw]))))
         all_goals (clear hK; clear K))
      | (with_reducible refine wp_condE ?_
         refine ⟨_, rfl, ?_, ?_⟩ <;> (intro hc; (try simp at hc); (all_goals first | (exfalso; omega) | skip))))
    all_goals first | exact ⟨(pre ++ [d], rest, _), by simp; rfl, by simp, by simp⟩ | exact ⟨_, by simp [pf379]; rfl, a, by simp⟩

noncomputable def newC (b : List Int) (hb : b.length ≤ 1048576) : XCur := ⟨b, 0, Classical.choose (d379_ex false b hb), hb⟩

@[simp] theorem t379 (b : List Int) (hb : b.length ≤ 1048576) : Gw TT 379 [.one (.ro false (.sl 1 (b.map eb)))] = some (.ptr [.ro false (.sl 1 ((newC b hb).b.map eb)), .ro false (di ((newC b hb).i : Nat)), .ro false (di (newC b hb).h)], []) := Classical.choose_spec (d379_ex false b hb)

theorem d376_ex (c : XCur)  : ∃ r : (Int) × XCur, Gw TT 376 [.ptr [.ro false (.sl 1 (c.b.map eb)), .ro false (di (c.i : Nat)), .ro false (di c.h)]] = some (vi r.1, [(0, 0, .ro false (.sl 1 (r.2.b.map eb))), (0, 1, .ro false (di (r.2.i : Nat))), (0, 2, .ro false (di r.2.h))]) ∧ (0 ≤ r.1 ∧ r.1 ≤ 255) := by
  suffices h0 : ∃ y, Gw TT 376 [.ptr [.ro false (.sl 1 (c.b.map eb)), .ro false (di (c.i : Nat)), .ro false (di c.h)]] = some y ∧ ∃ r : (Int) × XCur, y = (vi r.1, [(0, 0, .ro false (.sl 1 (r.2.b.map eb))), (0, 1, .ro false (di (r.2.i : Nat))), (0, 2, .ro false (di r.2.h))]) ∧ (0 ≤ r.1 ∧ r.1 ≤ 255) by
    obtain ⟨y, h1, r, rfl, h2⟩ := h0
    exact ⟨r, h1, h2⟩
  refine Gw_ofE (F := pf376) rfl rfl ?_
  show Wp _ pb376 _ _
  unfold pb376
  obtain ⟨b, i, h, hb⟩ := c
  by_cases hi : i < b.length
  · have hw : IntKind.wrap .i64 ((i : Int) + 1) = (i : Int) + 1 := wrap_i64 (by omega) (by omega)
    repeat' (first
      | with_reducible (first | refine wp_seq ?_ | refine wp_blk ?_ | refine wp_skip ?_ | refine wp_exit ?_ | refine wp_ret ?_ | refine seqQ_norm ?_ | refine seqQ_ret ?_ | refine seqQ_exit ?_ | refine blkQ_norm ?_ | refine blkQ_ret ?_ | refine blkQ_exit ?_ | refine loopQ_norm ?_ | refine loopQ_exit ?_ | refine loopQ_ret ?_ | refine endQ_ret ?_ | refine endQ_norm ?_ | refine endE_ret ?_ | refine endE_norm ?_ | refine endI_ret ?_ | refine endI_norm ?_)
      | (with_reducible refine wp_regK fun K hK => ?_
         simp[hi, hw]
         repeat' (with_reducible first | refine hK _ ?_ | (refine psel ?_ ?_ <;> (intro hc; (try rw [Decidable.not_not] at hc); first | (exfalso; omega) | (try simp [hc, hi, hw]))))
         all_goals (clear hK; clear K))
      | (with_reducible refine wp_condE ?_
         refine ⟨_, rfl, ?_, ?_⟩ <;> (intro hc; (try simp at hc); (all_goals first | (exfalso; omega) | skip))))
    all_goals first | (exfalso; omega) | (refine ⟨_, by simp [pf376]; rfl, ?_⟩; exact ⟨(_, ⟨b, i + 1, _, hb⟩), rfl, and255 _⟩)
  · repeat' (first
      | with_reducible (first | refine wp_seq ?_ | refine wp_blk ?_ | refine wp_skip ?_ | refine wp_exit ?_ | refine wp_ret ?_ | refine seqQ_norm ?_ | refine seqQ_ret ?_ | refine seqQ_exit ?_ | refine blkQ_norm ?_ | refine blkQ_ret ?_ | refine blkQ_exit ?_ | refine loopQ_norm ?_ | refine loopQ_exit ?_ | refine loopQ_ret ?_ | refine endQ_ret ?_ | refine endQ_norm ?_ | refine endE_ret ?_ | refine endE_norm ?_ | refine endI_ret ?_ | refine endI_norm ?_)
      | (with_reducible refine wp_regK fun K hK => ?_
         simp[hi]
         repeat' (with_reducible first | refine hK _ ?_ | (refine psel ?_ ?_ <;> (intro hc; (try rw [Decidable.not_not] at hc); first | (exfalso; omega) | (try simp [hc, hi]))))
         all_goals (clear hK; clear K))
      | (with_reducible refine wp_condE ?_
         refine ⟨_, rfl, ?_, ?_⟩ <;> (intro hc; (try simp at hc); (all_goals first | (exfalso; omega) | skip))))
    all_goals first | (exfalso; omega) | (refine ⟨_, by simp [pf376]; rfl, ?_⟩; exact ⟨(_, ⟨b, i, _, hb⟩), rfl, and255 _⟩)

noncomputable def d376 (c : XCur)  : (Int) × XCur := Classical.choose (d376_ex c)

@[simp] theorem t376 (c : XCur)  : Gw TT 376 [.ptr [.ro false (.sl 1 (c.b.map eb)), .ro false (di (c.i : Nat)), .ro false (di c.h)]] = some (vi (d376 c).1, [(0, 0, .ro false (.sl 1 ((d376 c).2.b.map eb))), (0, 1, .ro false (di ((d376 c).2.i : Nat))), (0, 2, .ro false (di (d376 c).2.h))]) := (Classical.choose_spec (d376_ex c)).1

theorem p376 (c : XCur)  : 0 ≤ (d376 c).1 ∧ (d376 c).1 ≤ 255 := (Classical.choose_spec (d376_ex c)).2

theorem tmod_lt {x n : Int} (h0 : 0 ≤ x) (h : 0 < n) : 0 ≤ x.tmod n ∧ x.tmod n < n := by
  rw [Int.tmod_eq_emod_of_nonneg h0]
  exact ⟨Int.emod_nonneg _ (by omega), Int.emod_lt_of_pos _ h⟩

theorem d375_ex (c : XCur) (n : Int) : ∃ r : (Int) × XCur, Gw TT 375 [.ptr [.ro false (.sl 1 (c.b.map eb)), .ro false (di (c.i : Nat)), .ro false (di c.h)], vi n] = some (vi r.1, [(0, 0, .ro false (.sl 1 (r.2.b.map eb))), (0, 1, .ro false (di (r.2.i : Nat))), (0, 2, .ro false (di r.2.h))]) ∧ (0 ≤ r.1 ∧ (0 < n → r.1 < n) ∧ (n ≤ 0 → r.1 = 0)) := by
  suffices h0 : ∃ y, Gw TT 375 [.ptr [.ro false (.sl 1 (c.b.map eb)), .ro false (di (c.i : Nat)), .ro false (di c.h)], vi n] = some y ∧ ∃ r : (Int) × XCur, y = (vi r.1, [(0, 0, .ro false (.sl 1 (r.2.b.map eb))), (0, 1, .ro false (di (r.2.i : Nat))), (0, 2, .ro false (di r.2.h))]) ∧ (0 ≤ r.1 ∧ (0 < n → r.1 < n) ∧ (n ≤ 0 → r.1 = 0)) by
    obtain ⟨y, h1, r, rfl, h2⟩ := h0
    exact ⟨r, h1, h2⟩
  refine Gw_ofE (F := pf375) rfl rfl ?_
  show Wp _ pb375 _ _
  unfold pb375
  by_cases h0 : n ≤ 0
  · repeat' (first
      | with_reducible (first | refine wp_seq ?_ | refine wp_blk ?_ | refine wp_skip ?_ | refine wp_exit ?_ | refine wp_ret ?_ | refine seqQ_norm ?_ | refine seqQ_ret ?_ | refine seqQ_exit ?_ | refine blkQ_norm ?_ | refine blkQ_ret ?_ | refine blkQ_exit ?_ | refine loopQ_norm ?_ | refine loopQ_exit ?_ | refine loopQ_ret ?_ | refine endQ_ret ?_ | refine endQ_norm ?_ | refine endE_ret ?_ | refine endE_norm ?_ | refine endI_ret ?_ | refine endI_norm ?_)
      | (with_reducible refine wp_regK fun K hK => ?_
         simp[h0]
         repeat' (with_reducible first | refine hK _ ?_ | (refine psel ?_ ?_ <;> (intro hc; (try rw [Decidable.not_not] at hc); first | (exfalso; omega) | (try simp [hc, h0]))))
         all_goals (clear hK; clear K))
      | (with_reducible refine wp_condE ?_
         refine ⟨_, rfl, ?_, ?_⟩ <;> (intro hc; (try simp at hc); (all_goals first | (exfalso; omega) | skip))))
    all_goals first | (exfalso; omega) | (refine ⟨_, by simp [pf375]; rfl, ?_⟩; exact ⟨(0, c), rfl, by omega, by omega, fun _ => rfl⟩)
  · have hn : n ≠ 0 := by omega
    by_cases h1 : n ≤ 256
    · have q := p376 c
      have q2 := tmod_lt (n := n) q.1 (by omega)
      repeat' (first
        | with_reducible (first | refine wp_seq ?_ | refine wp_blk ?_ | refine wp_skip ?_ | refine wp_exit ?_ | refine wp_ret ?_ | refine seqQ_norm ?_ | refine seqQ_ret ?_ | refine seqQ_exit ?_ | refine blkQ_norm ?_ | refine blkQ_ret ?_ | refine blkQ_exit ?_ | refine loopQ_norm ?_ | refine loopQ_exit ?_ | refine loopQ_ret ?_ | refine endQ_ret ?_ | refine endQ_norm ?_ | refine endE_ret ?_ | refine endE_norm ?_ | refine endI_ret ?_ | refine endI_norm ?_)
        | (with_reducible refine wp_regK fun K hK => ?_
           simp[h0, h1, hn]
           repeat' (with_reducible first | refine hK _ ?_ | (refine psel ?_ ?_ <;> (intro hc; (try rw [Decidable.not_not] at hc); first | (exfalso; omega) | (try simp [hc, h0, h1, hn]))))
           all_goals (clear hK; clear K))
        | (with_reducible refine wp_condE ?_
           refine ⟨_, rfl, ?_, ?_⟩ <;> (intro hc; (try simp at hc); (all_goals first | (exfalso; omega) | skip))))
      all_goals first | (exfalso; omega) | (refine ⟨_, by simp [pf375]; rfl, ?_⟩; exact ⟨(_, (d376 c).2), rfl, q2.1, fun _ => q2.2, fun h => absurd h h0⟩)
    · have q1 := p376 c
      have q2 := p376 (d376 c).2
      have q3 := p376 (d376 (d376 c).2).2
      have w1 : IntKind.wrap .i64 ((d376 c).1 * 65536) = (d376 c).1 * 65536 := wrap_i64 (by omega) (by omega)
      have w2 : IntKind.wrap .i64 ((d376 (d376 c).2).1 * 256) = (d376 (d376 c).2).1 * 256 := wrap_i64 (by omega) (by omega)
      have w3 : IntKind.wrap .i64 ((d376 c).1 * 65536 + (d376 (d376 c).2).1 * 256) = (d376 c).1 * 65536 + (d376 (d376 c).2).1 * 256 := wrap_i64 (by omega) (by omega)
      have w4 : IntKind.wrap .i64 ((d376 c).1 * 65536 + (d376 (d376 c).2).1 * 256 + (d376 (d376 (d376 c).2).2).1) = (d376 c).1 * 65536 + (d376 (d376 c).2).1 * 256 + (d376 (d376 (d376 c).2).2).1 := wrap_i64 (by omega) (by omega)
      have q4 := tmod_lt (x := (d376 c).1 * 65536 + (d376 (d376 c).2).1 * 256 + (d376 (d376 (d376 c).2).2).1) (n := n) (by omega) (by omega)
      repeat' (first
        | with_reducible (first | refine wp_seq ?_ | refine wp_blk ?_ | refine wp_skip ?_ | refine wp_exit ?_ | refine wp_ret ?_ | refine seqQ_norm ?_ | refine seqQ_ret ?_ | refine seqQ_exit ?_ | refine blkQ_norm ?_ | refine blkQ_ret ?_ | refine blkQ_exit ?_ | refine loopQ_norm ?_ | refine loopQ_exit ?_ | refine loopQ_ret ?_ | refine endQ_ret ?_ | refine endQ_norm ?_ | refine endE_ret ?_ | refine endE_norm ?_ | refine endI_ret ?_ | refine endI_norm ?_)
        | (with_reducible refine wp_regK fun K hK => ?_
           simp[h0, h1, hn, w1, w2, w3, w4]
           repeat' (with_reducible first | refine hK _ ?_ | (refine psel ?_ ?_ <;> (intro hc; (try rw [Decidable.not_not] at hc); first | (exfalso; omega) | (try simp [hc, h0, h1, hn, w1, w2, w3, w4]))))
           all_goals (clear hK; clear K))
        | (with_reducible refine wp_condE ?_
           refine ⟨_, rfl, ?_, ?_⟩ <;> (intro hc; (try simp at hc); (all_goals first | (exfalso; omega) | skip))))
      all_goals first | (exfalso; omega) | (refine ⟨_, by simp [pf375]; rfl, ?_⟩; exact ⟨(_, (d376 (d376 (d376 c).2).2).2), rfl, q4.1, fun _ => q4.2, fun h => absurd h h0⟩)

noncomputable def d375 (c : XCur) (n : Int) : (Int) × XCur := Classical.choose (d375_ex c n)

@[simp] theorem t375 (c : XCur) (n : Int) : Gw TT 375 [.ptr [.ro false (.sl 1 (c.b.map eb)), .ro false (di (c.i : Nat)), .ro false (di c.h)], vi n] = some (vi (d375 c n).1, [(0, 0, .ro false (.sl 1 ((d375 c n).2.b.map eb))), (0, 1, .ro false (di ((d375 c n).2.i : Nat))), (0, 2, .ro false (di (d375 c n).2.h))]) := (Classical.choose_spec (d375_ex c n)).1

theorem p375 (c : XCur) (n : Int) : 0 ≤ (d375 c n).1 ∧ (0 < n → (d375 c n).1 < n) ∧ (n ≤ 0 → (d375 c n).1 = 0) := (Classical.choose_spec (d375_ex c n)).2

theorem d382_ex (c : XCur) (n : Int) : ∃ r : (Bool) × XCur, Gw TT 382 [.ptr [.ro false (.sl 1 (c.b.map eb)), .ro false (di (c.i : Nat)), .ro false (di c.h)], vi n] = some (vb r.1, [(0, 0, .ro false (.sl 1 (r.2.b.map eb))), (0, 1, .ro false (di (r.2.i : Nat))), (0, 2, .ro false (di r.2.h))]) ∧ (True) := by
  suffices h0 : ∃ y, Gw TT 382 [.ptr [.ro false (.sl 1 (c.b.map eb)), .ro false (di (c.i : Nat)), .ro false (di c.h)], vi n] = some y ∧ ∃ r : (Bool) × XCur, y = (vb r.1, [(0, 0, .ro false (.sl 1 (r.2.b.map eb))), (0, 1, .ro false (di (r.2.i : Nat))), (0, 2, .ro false (di r.2.h))]) ∧ (True) by
    obtain ⟨y, h1, r, rfl, h2⟩ := h0
    exact ⟨r, h1, h2⟩
  refine Gw_ofE (F := pf382) rfl rfl ?_
  show Wp _ pb382 _ _
  unfold pb382
  repeat' (first
    | with_reducible (first | refine wp_seq ?_ | refine wp_blk ?_ | refine wp_skip ?_ | refine wp_exit ?_ | refine wp_ret ?_ | refine seqQ_norm ?_ | refine seqQ_ret ?_ | refine seqQ_exit ?_ | refine blkQ_norm ?_ | refine blkQ_ret ?_ | refine blkQ_exit ?_ | refine loopQ_norm ?_ | refine loopQ_exit ?_ | refine loopQ_ret ?_ | refine endQ_ret ?_ | refine endQ_norm ?_ | refine endE_ret ?_ | refine endE_norm ?_ | refine endI_ret ?_ | refine endI_norm ?_)
    | (with_reducible refine wp_regK fun K hK => ?_
       simp
       repeat' (with_reducible first | refine hK _ ?_ | (refine psel ?_ ?_ <;> (intro hc; (try rw [Decidable.not_not] at hc); first | (exfalso; omega) | (try simp [hc]))))
       all_goals (clear hK; clear K))
    | (with_reducible refine wp_condE ?_
       refine ⟨_, rfl, ?_, ?_⟩ <;> (intro hc; (try simp at hc); (all_goals first | (exfalso; omega) | skip))))
  all_goals (refine ⟨_, by simp [pf382]; rfl, ?_⟩; exact ⟨((d375 c n).1 == 0, (d375 c n).2), rfl, trivial⟩)

noncomputable def d382 (c : XCur) (n : Int) : (Bool) × XCur := Classical.choose (d382_ex c n)

@[simp] theorem t382 (c : XCur) (n : Int) : Gw TT 382 [.ptr [.ro false (.sl 1 (c.b.map eb)), .ro false (di (c.i : Nat)), .ro false (di c.h)], vi n] = some (vb (d382 c n).1, [(0, 0, .ro false (.sl 1 ((d382 c n).2.b.map eb))), (0, 1, .ro false (di ((d382 c n).2.i : Nat))), (0, 2, .ro false (di (d382 c n).2.h))]) := (Classical.choose_spec (d382_ex c n)).1

theorem d378_ex (c : XCur) (k0 : Bool) (L : List (List D)) (h0 : 0 < L.length) (h1 : L.length ≤ 256) (hL : ∀ e ∈ L, ∃ n : Int, e = [di n]) : ∃ r : (Int) × XCur, Gw TT 378 [.ptr [.ro false (.sl 1 (c.b.map eb)), .ro false (di (c.i : Nat)), .ro false (di c.h)], .one (.ro k0 (.sl 1 L))] = some (vi r.1, [(0, 0, .ro false (.sl 1 (r.2.b.map eb))), (0, 1, .ro false (di (r.2.i : Nat))), (0, 2, .ro false (di r.2.h))]) ∧ ([di r.1] ∈ L) := by
  suffices h0 : ∃ y, Gw TT 378 [.ptr [.ro false (.sl 1 (c.b.map eb)), .ro false (di (c.i : Nat)), .ro false (di c.h)], .one (.ro k0 (.sl 1 L))] = some y ∧ ∃ r : (Int) × XCur, y = (vi r.1, [(0, 0, .ro false (.sl 1 (r.2.b.map eb))), (0, 1, .ro false (di (r.2.i : Nat))), (0, 2, .ro false (di r.2.h))]) ∧ ([di r.1] ∈ L) by
    obtain ⟨y, h1, r, rfl, h2⟩ := h0
    exact ⟨r, h1, h2⟩
  refine Gw_ofE (F := pf378) rfl rfl ?_
  show Wp _ pb378 _ _
  unfold pb378
  obtain ⟨q1, q2, q3⟩ := p375 c (L.length : Int)
  have q4 := q2 (by omega)
  have hlt : (d375 c (L.length : Int)).1.toNat < L.length := by omega
  obtain ⟨x, hx⟩ := hL _ (List.getElem_mem hlt)
  have hx2 : L[(d375 c (L.length : Int)).1.toNat]? = some [di x] := by rw [List.getElem?_eq_getElem hlt, hx]
  repeat' (first
    | with_reducible (first | refine wp_seq ?_ | refine wp_blk ?_ | refine wp_skip ?_ | refine wp_exit ?_ | refine wp_ret ?_ | refine seqQ_norm ?_ | refine seqQ_ret ?_ | refine seqQ_exit ?_ | refine blkQ_norm ?_ | refine blkQ_ret ?_ | refine blkQ_exit ?_ | refine loopQ_norm ?_ | refine loopQ_exit ?_ | refine loopQ_ret ?_ | refine endQ_ret ?_ | refine endQ_norm ?_ | refine endE_ret ?_ | refine endE_norm ?_ | refine endI_ret ?_ | refine endI_norm ?_)
    | (with_reducible refine wp_regK fun K hK => ?_
       simp[q1, q4, hx2, hx]
       repeat' (with_reducible first | refine hK _ ?_ | (refine psel ?_ ?_ <;> (intro hc; (try rw [Decidable.not_not] at hc); first | (exfalso; omega) | (try simp [hc, q1, q4, hx2, hx]))))
       all_goals (clear hK; clear K))
    | (with_reducible refine wp_condE ?_
       refine ⟨_, rfl, ?_, ?_⟩ <;> (intro hc; (try simp at hc); (all_goals first | (exfalso; omega) | skip))))
  all_goals first | (exfalso; omega) | (refine ⟨_, by simp [pf378]; rfl, ?_⟩; exact ⟨(x, (d375 c (L.length : Int)).2), rfl, hx ▸ List.getElem_mem hlt⟩)

noncomputable def d378 (c : XCur) (k0 : Bool) (L : List (List D)) (h0 : 0 < L.length) (h1 : L.length ≤ 256) (hL : ∀ e ∈ L, ∃ n : Int, e = [di n]) : (Int) × XCur := Classical.choose (d378_ex c k0 L h0 h1 hL)

theorem t378 (c : XCur) (k0 : Bool) (L : List (List D)) (h0 : 0 < L.length) (h1 : L.length ≤ 256) (hL : ∀ e ∈ L, ∃ n : Int, e = [di n]) : Gw TT 378 [.ptr [.ro false (.sl 1 (c.b.map eb)), .ro false (di (c.i : Nat)), .ro false (di c.h)], .one (.ro k0 (.sl 1 L))] = some (vi (d378 c k0 L h0 h1 hL).1, [(0, 0, .ro false (.sl 1 ((d378 c k0 L h0 h1 hL).2.b.map eb))), (0, 1, .ro false (di ((d378 c k0 L h0 h1 hL).2.i : Nat))), (0, 2, .ro false (di (d378 c k0 L h0 h1 hL).2.h))]) := (Classical.choose_spec (d378_ex c k0 L h0 h1 hL)).1

@[simp] theorem t141 (k0 : Bool) (b : List Int) (h : b.length ≤ 9223372036854775807) : Gw TT 141 [.one (.ro k0 (.sl 1 (b.map eb)))] = some (vb (decide (1048576 < (b.length : Int))), []) := by
  refine Gw_of (F := pf141) rfl rfl ?_
  show Wp _ pb141 _ _
  unfold pb141
  repeat' (first
    | with_reducible (first | refine wp_seq ?_ | refine wp_blk ?_ | refine wp_skip ?_ | refine wp_exit ?_ | refine wp_ret ?_ | refine seqQ_norm ?_ | refine seqQ_ret ?_ | refine seqQ_exit ?_ | refine blkQ_norm ?_ | refine blkQ_ret ?_ | refine blkQ_exit ?_ | refine loopQ_norm ?_ | refine loopQ_exit ?_ | refine loopQ_ret ?_ | refine endQ_ret ?_ | refine endQ_norm ?_ | refine endE_ret ?_ | refine endE_norm ?_ | refine endI_ret ?_ | refine endI_norm ?_)
    | (with_reducible refine wp_regK fun K hK => ?_
       simp
       repeat' (with_reducible first | refine hK _ ?_ | (refine psel ?_ ?_ <;> (intro hc; (try rw [Decidable.not_not] at hc); first | (exfalso; omega) | (try simp [hc]))))
       all_goals (clear hK; clear K))
    | (with_reducible refine wp_condE ?_
       refine ⟨_, rfl, ?_, ?_⟩ <;> (intro hc; (try simp at hc); (all_goals first | (exfalso; omega) | skip))))
  all_goals simp [pf141]

theorem d365_ex (c : XCur)  : ∃ r : (List Int × Int) × XCur, Gw TT 365 [.ptr [.ro false (.sl 1 (c.b.map eb)), .ro false (di (c.i : Nat)), .ro false (di c.h)]] = some (.tup [.one (.own (.sl 1 (r.1.1.map ei))), vi r.1.2], [(0, 0, .ro false (.sl 1 (r.2.b.map eb))), (0, 1, .ro false (di (r.2.i : Nat))), (0, 2, .ro false (di r.2.h))]) ∧ (r.1.1.length ≤ 4 ∧ 0 ≤ r.1.2 ∧ r.1.2 ≤ 4) := by
  suffices h0 : ∃ y, Gw TT 365 [.ptr [.ro false (.sl 1 (c.b.map eb)), .ro false (di (c.i : Nat)), .ro false (di c.h)]] = some y ∧ ∃ r : (List Int × Int) × XCur, y = (.tup [.one (.own (.sl 1 (r.1.1.map ei))), vi r.1.2], [(0, 0, .ro false (.sl 1 (r.2.b.map eb))), (0, 1, .ro false (di (r.2.i : Nat))), (0, 2, .ro false (di r.2.h))]) ∧ (r.1.1.length ≤ 4 ∧ 0 ≤ r.1.2 ∧ r.1.2 ≤ 4) by
    obtain ⟨y, h1, r, rfl, h2⟩ := h0
    exact ⟨r, h1, h2⟩
  refine Gw_ofE (F := pf365) rfl rfl ?_
  show Wp _ pb365 _ _
  unfold pb365
  have q1 := p375 c 5
  have q2 := p375 (d375 c 5).2 5
  have hn : ((d375 (d375 c 5).2 5).1.toNat : Int) = (d375 (d375 c 5).2 5).1 := Int.toNat_of_nonneg q2.1
  have q3 := q1.2.1 (by omega)
  have q4 := q2.2.1 (by omega)
  repeat' (first
    | with_reducible (first | refine wp_seq ?_ | refine wp_blk ?_ | refine wp_skip ?_ | refine wp_exit ?_ | refine wp_ret ?_ | refine seqQ_norm ?_ | refine seqQ_ret ?_ | refine seqQ_exit ?_ | refine blkQ_norm ?_ | refine blkQ_ret ?_ | refine blkQ_exit ?_ | refine loopQ_norm ?_ | refine loopQ_exit ?_ | refine loopQ_ret ?_ | refine endQ_ret ?_ | refine endQ_norm ?_ | refine endE_ret ?_ | refine endE_norm ?_ | refine endI_ret ?_ | refine endI_norm ?_)
    | (with_reducible refine wp_regK fun K hK => ?_
       simp
       repeat' (with_reducible first | refine hK _ ?_ | (refine psel ?_ ?_ <;> (intro hc; (try rw [Decidable.not_not] at hc); first | (exfalso; omega) | (try simp [hc]))))
       all_goals (clear hK; clear K))
    | (with_reducible refine wp_condE ?_
       refine ⟨_, rfl, ?_, ?_⟩ <;> (intro hc; (try simp at hc); (all_goals first | (exfalso; omega) | skip))))
  refine wp_loopI (σ := Nat × List Int × XCur) (fun s => [(0, AV.bx 0 0, some (Rt.bx [.ro false (.sl 1 (s.2.2.b.map eb)), .ro false (di (s.2.2.i : Nat)), .ro false (di s.2.2.h)])), (4, AV.v false (di (d375 c 5).1), none), (5, AV.pl 5 0 [], some (Rt.vir [C.own (D.sl 1 (s.2.1.map ei))])), (6, AV.v false (di (s.1 : Nat)), none)]) (fun s => s.1 + s.2.1.length ≤ 4) (fun s => s.1) ((d375 (d375 c 5).2 5).1.toNat, [], (d375 (d375 c 5).2 5).2) (by simp [hn]) (by simp only [List.length_nil]; omega) ?_
  rintro ⟨n, acc, c1⟩ h1
  simp only at h1
  rcases n with _ | n
  · unfold pl365_0
    repeat' (first
      | with_reducible (first | refine wp_seq ?_ | refine wp_blk ?_ | refine wp_skip ?_ | refine wp_exit ?_ | refine wp_ret ?_ | refine seqQ_norm ?_ | refine seqQ_ret ?_ | refine seqQ_exit ?_ | refine blkQ_norm ?_ | refine blkQ_ret ?_ | refine blkQ_exit ?_ | refine loopQ_norm ?_ | refine loopQ_exit ?_ | refine loopQ_ret ?_ | refine endQ_ret ?_ | refine endQ_norm ?_ | refine endE_ret ?_ | refine endE_norm ?_ | refine endI_ret ?_ | refine endI_norm ?_)
      | (with_reducible refine wp_regK fun K hK => ?_
         simp
         repeat' (with_reducible first | refine hK _ ?_ | (refine psel ?_ ?_ <;> (intro hc; (try rw [Decidable.not_not] at hc); first | (exfalso; omega) | (try simp [hc]))))
         all_goals (clear hK; clear K))
      | (with_reducible refine wp_condE ?_
         refine ⟨_, rfl, ?_, ?_⟩ <;> (intro hc; (try simp at hc); (all_goals first | (exfalso; omega) | skip))))
    all_goals first | (exfalso; omega) | (refine ⟨_, by simp [pf365]; rfl, ?_⟩; exact ⟨((acc, (d375 c 5).1), c1), rfl, by simp only; omega, by simp only; omega, by simp only; omega⟩)
  · unfold pl365_0
    have hwn : IntKind.wrap .i64 (n : Int) = (n : Int) := wrap_i64 (by omega) (by omega)
    have hq1 : (acc.length + 1) * 8 ≤ 70368744177664 := by omega
    obtain ⟨r, g⟩ : ∃ r : Int × XCur, Gw TT 378 [.ptr [.ro false (.sl 1 (c1.b.map eb)), .ro false (di (c1.i : Nat)), .ro false (di c1.h)], .one (.ro true (.sl 1 [[di (-1)], [di (-1)], [di ((d375 c 5).1)], [di ((d375 c 5).1)], [di (IntKind.wrap .i64 ((d375 c 5).1 - 1))], [di 0]]))] = some (vi r.1, [(0, 0, .ro false (.sl 1 (r.2.b.map eb))), (0, 1, .ro false (di (r.2.i : Nat))), (0, 2, .ro false (di r.2.h))]) := ⟨_, t378 c1 true [[di (-1)], [di (-1)], [di ((d375 c 5).1)], [di ((d375 c 5).1)], [di (IntKind.wrap .i64 ((d375 c 5).1 - 1))], [di 0]] (by simp) (by simp) (by simp)⟩
    repeat' (first
      | with_reducible (first | refine wp_seq ?_ | refine wp_blk ?_ | refine wp_skip ?_ | refine wp_exit ?_ | refine wp_ret ?_ | refine seqQ_norm ?_ | refine seqQ_ret ?_ | refine seqQ_exit ?_ | refine blkQ_norm ?_ | refine blkQ_ret ?_ | refine blkQ_exit ?_ | refine loopQ_norm ?_ | refine loopQ_exit ?_ | refine loopQ_ret ?_ | refine endQ_ret ?_ | refine endQ_norm ?_ | refine endE_ret ?_ | refine endE_norm ?_ | refine endI_ret ?_ | refine endI_norm ?_)
      | (with_reducible refine wp_regK fun K hK => ?_
         simp[g, hwn, hq1]
         repeat' (with_reducible first | refine hK _ ?_ | (refine psel ?_ ?_ <;> (intro hc; (try rw [Decidable.not_not] at hc); first | (exfalso; omega) | (try simp [hc, g, hwn, hq1]))))
         all_goals (clear hK; clear K))
      | (with_reducible refine wp_condE ?_
         refine ⟨_, rfl, ?_, ?_⟩ <;> (intro hc; (try simp at hc); (all_goals first | (exfalso; omega) | skip))))
    all_goals first | (exfalso; omega) | (exact ⟨(n, acc ++ [r.1], r.2), by simp [hwn], by simp only [List.length_append, List.length_cons, List.length_nil]; omega, by simp⟩) | skip

noncomputable def d365 (c : XCur)  : (List Int × Int) × XCur := Classical.choose (d365_ex c)

@[simp] theorem t365 (c : XCur)  : Gw TT 365 [.ptr [.ro false (.sl 1 (c.b.map eb)), .ro false (di (c.i : Nat)), .ro false (di c.h)]] = some (.tup [.one (.own (.sl 1 ((d365 c).1.1.map ei))), vi (d365 c).1.2], [(0, 0, .ro false (.sl 1 ((d365 c).2.b.map eb))), (0, 1, .ro false (di ((d365 c).2.i : Nat))), (0, 2, .ro false (di (d365 c).2.h))]) := (Classical.choose_spec (d365_ex c)).1

theorem p365 (c : XCur)  : (d365 c).1.1.length ≤ 4 ∧ 0 ≤ (d365 c).1.2 ∧ (d365 c).1.2 ≤ 4 := (Classical.choose_spec (d365_ex c)).2

theorem d364_ex (c : XCur)  : ∃ r : (List XDead × Int) × XCur, Gw TT 364 [.ptr [.ro false (.sl 1 (c.b.map eb)), .ro false (di (c.i : Nat)), .ro false (di c.h)]] = some (.tup [.one (.own (.sl 3 (r.1.1.map XDead.e))), vi r.1.2], [(0, 0, .ro false (.sl 1 (r.2.b.map eb))), (0, 1, .ro false (di (r.2.i : Nat))), (0, 2, .ro false (di r.2.h))]) ∧ (r.1.1.length ≤ 4 ∧ 0 ≤ r.1.2 ∧ r.1.2 ≤ 6 ∧ ∀ y ∈ r.1.1, 0 ≤ y.At) := by
  suffices h0 : ∃ y, Gw TT 364 [.ptr [.ro false (.sl 1 (c.b.map eb)), .ro false (di (c.i : Nat)), .ro false (di c.h)]] = some y ∧ ∃ r : (List XDead × Int) × XCur, y = (.tup [.one (.own (.sl 3 (r.1.1.map XDead.e))), vi r.1.2], [(0, 0, .ro false (.sl 1 (r.2.b.map eb))), (0, 1, .ro false (di (r.2.i : Nat))), (0, 2, .ro false (di r.2.h))]) ∧ (r.1.1.length ≤ 4 ∧ 0 ≤ r.1.2 ∧ r.1.2 ≤ 6 ∧ ∀ y ∈ r.1.1, 0 ≤ y.At) by
    obtain ⟨y, h1, r, rfl, h2⟩ := h0
    exact ⟨r, h1, h2⟩
  refine Gw_ofE (F := pf364) rfl rfl ?_
  show Wp _ pb364 _ _
  unfold pb364
  have q1 := p375 c 5
  have hn : ((d375 c 5).1.toNat : Int) = (d375 c 5).1 := Int.toNat_of_nonneg q1.1
  have q3 := q1.2.1 (by omega)
  repeat' (first
    | with_reducible (first | refine wp_seq ?_ | refine wp_blk ?_ | refine wp_skip ?_ | refine wp_exit ?_ | refine wp_ret ?_ | refine seqQ_norm ?_ | refine seqQ_ret ?_ | refine seqQ_exit ?_ | refine blkQ_norm ?_ | refine blkQ_ret ?_ | refine blkQ_exit ?_ | refine loopQ_norm ?_ | refine loopQ_exit ?_ | refine loopQ_ret ?_ | refine endQ_ret ?_ | refine endQ_norm ?_ | refine endE_ret ?_ | refine endE_norm ?_ | refine endI_ret ?_ | refine endI_norm ?_)
    | (with_reducible refine wp_regK fun K hK => ?_
       simp
       repeat' (with_reducible first | refine hK _ ?_ | (refine psel ?_ ?_ <;> (intro hc; (try rw [Decidable.not_not] at hc); first | (exfalso; omega) | (try simp [hc]))))
       all_goals (clear hK; clear K))
    | (with_reducible refine wp_condE ?_
       refine ⟨_, rfl, ?_, ?_⟩ <;> (intro hc; (try simp at hc); (all_goals first | (exfalso; omega) | skip))))
  refine wp_loopI (σ := Nat × List XDead × XCur) (fun s => [(0, AV.bx 0 0, some (Rt.bx [.ro false (.sl 1 (s.2.2.b.map eb)), .ro false (di (s.2.2.i : Nat)), .ro false (di s.2.2.h)])), (4, AV.pl 4 0 [], some (Rt.vir [C.own (D.sl 3 (s.2.1.map XDead.e))])), (5, AV.v false (di (s.1 : Nat)), none)]) (fun s => s.1 + s.2.1.length ≤ 4 ∧ ∀ y ∈ s.2.1, 0 ≤ y.At) (fun s => s.1) ((d375 c 5).1.toNat, [], (d375 c 5).2) (by simp [hn]) ⟨by simp only [List.length_nil]; omega, by simp⟩ ?_
  rintro ⟨n, acc, c1⟩ ⟨h1, hA⟩
  simp only at h1 hA
  rcases n with _ | n
  · unfold pl364_0
    have q5 := p375 c1 7
    have q6 := q5.2.1 (by omega)
    repeat' (first
      | with_reducible (first | refine wp_seq ?_ | refine wp_blk ?_ | refine wp_skip ?_ | refine wp_exit ?_ | refine wp_ret ?_ | refine seqQ_norm ?_ | refine seqQ_ret ?_ | refine seqQ_exit ?_ | refine blkQ_norm ?_ | refine blkQ_ret ?_ | refine blkQ_exit ?_ | refine loopQ_norm ?_ | refine loopQ_exit ?_ | refine loopQ_ret ?_ | refine endQ_ret ?_ | refine endQ_norm ?_ | refine endE_ret ?_ | refine endE_norm ?_ | refine endI_ret ?_ | refine endI_norm ?_)
      | (with_reducible refine wp_regK fun K hK => ?_
         simp
         repeat' (with_reducible first | refine hK _ ?_ | (refine psel ?_ ?_ <;> (intro hc; (try rw [Decidable.not_not] at hc); first | (exfalso; omega) | (try simp [hc]))))
         all_goals (clear hK; clear K))
      | (with_reducible refine wp_condE ?_
         refine ⟨_, rfl, ?_, ?_⟩ <;> (intro hc; (try simp at hc); (all_goals first | (exfalso; omega) | skip))))
    all_goals first | (exfalso; omega) | (refine ⟨_, by simp [pf364]; rfl, ?_⟩; exact ⟨((acc, (d375 c1 7).1), (d375 c1 7).2), rfl, by simp only; omega, by simp only; omega, by simp only; omega, hA⟩)
  · unfold pl364_0
    have hwn : IntKind.wrap .i64 (n : Int) = (n : Int) := wrap_i64 (by omega) (by omega)
    have hB := (p375 (d375 (d375 c1 5).2 2).2 5).1
    have hq1 : (acc.length + 1) * 24 ≤ 70368744177664 := by omega
    repeat' (first
      | with_reducible (first | refine wp_seq ?_ | refine wp_blk ?_ | refine wp_skip ?_ | refine wp_exit ?_ | refine wp_ret ?_ | refine seqQ_norm ?_ | refine seqQ_ret ?_ | refine seqQ_exit ?_ | refine blkQ_norm ?_ | refine blkQ_ret ?_ | refine blkQ_exit ?_ | refine loopQ_norm ?_ | refine loopQ_exit ?_ | refine loopQ_ret ?_ | refine endQ_ret ?_ | refine endQ_norm ?_ | refine endE_ret ?_ | refine endE_norm ?_ | refine endI_ret ?_ | refine endI_norm ?_)
      | (with_reducible refine wp_regK fun K hK => ?_
         simp[hwn, hq1]
         repeat' (with_reducible first | refine hK _ ?_ | (refine psel ?_ ?_ <;> (intro hc; (try rw [Decidable.not_not] at hc); first | (exfalso; omega) | (try simp [hc, hwn, hq1]))))
         all_goals (clear hK; clear K))
      | (with_reducible refine wp_condE ?_
         refine ⟨_, rfl, ?_, ?_⟩ <;> (intro hc; (try simp at hc); (all_goals first | (exfalso; omega) | skip))))
    all_goals first | (exfalso; omega) | (exact ⟨(n, acc ++ [⟨(d375 c1 5).1, (d375 (d375 c1 5).2 2).1, (d375 (d375 (d375 c1 5).2 2).2 5).1⟩], (d375 (d375 (d375 c1 5).2 2).2 5).2), by simp [hwn], ⟨by simp only [List.length_append, List.length_cons, List.length_nil]; omega, fun y hy => by
        rcases List.mem_append.1 hy with hy | hy
        · exact hA y hy
        · rw [List.mem_singleton.1 hy]; exact hB⟩, by simp⟩) | skip

noncomputable def d364 (c : XCur)  : (List XDead × Int) × XCur := Classical.choose (d364_ex c)

@[simp] theorem t364 (c : XCur)  : Gw TT 364 [.ptr [.ro false (.sl 1 (c.b.map eb)), .ro false (di (c.i : Nat)), .ro false (di c.h)]] = some (.tup [.one (.own (.sl 3 ((d364 c).1.1.map XDead.e))), vi (d364 c).1.2], [(0, 0, .ro false (.sl 1 ((d364 c).2.b.map eb))), (0, 1, .ro false (di ((d364 c).2.i : Nat))), (0, 2, .ro false (di (d364 c).2.h))]) := (Classical.choose_spec (d364_ex c)).1

theorem p364 (c : XCur)  : (d364 c).1.1.length ≤ 4 ∧ 0 ≤ (d364 c).1.2 ∧ (d364 c).1.2 ≤ 6 ∧ ∀ y ∈ (d364 c).1.1, 0 ≤ y.At := (Classical.choose_spec (d364_ex c)).2

theorem e280_ex (b : List Int) (hb : b.length ≤ 1048576) : ∃ r : List Int × Int, Gw TT 280 [.one (.ro false (.sl 1 (b.map eb)))] = some (.tup [.one (.own (.sl 1 (r.1.map ei))), vi r.2], []) ∧ (r.1.length ≤ 4 ∧ 0 ≤ r.2 ∧ r.2 ≤ 4) := by
  suffices h0 : ∃ y, Gw TT 280 [.one (.ro false (.sl 1 (b.map eb)))] = some y ∧ ∃ r : List Int × Int, y = (.tup [.one (.own (.sl 1 (r.1.map ei))), vi r.2], []) ∧ (r.1.length ≤ 4 ∧ 0 ≤ r.2 ∧ r.2 ≤ 4) by
    obtain ⟨y, h1, r, rfl, h2⟩ := h0
    exact ⟨r, h1, h2⟩
  refine Gw_ofE (F := pf280) rfl rfl ?_
  show Wp _ pb280 _ _
  unfold pb280
  have q := p365 (newC b hb)
  repeat' (first
    | with_reducible (first | refine wp_seq ?_ | refine wp_blk ?_ | refine wp_skip ?_ | refine wp_exit ?_ | refine wp_ret ?_ | refine seqQ_norm ?_ | refine seqQ_ret ?_ | refine seqQ_exit ?_ | refine blkQ_norm ?_ | refine blkQ_ret ?_ | refine blkQ_exit ?_ | refine loopQ_norm ?_ | refine loopQ_exit ?_ | refine loopQ_ret ?_ | refine endQ_ret ?_ | refine endQ_norm ?_ | refine endE_ret ?_ | refine endE_norm ?_ | refine endI_ret ?_ | refine endI_norm ?_)
    | (with_reducible refine wp_regK fun K hK => ?_
       simp[hb]
       repeat' (with_reducible first | refine hK _ ?_ | (refine psel ?_ ?_ <;> (intro hc; (try rw [Decidable.not_not] at hc); first | (exfalso; omega) | (try simp [hc, hb]))))
       all_goals (clear hK; clear K))
    | (with_reducible refine wp_condE ?_
       refine ⟨_, rfl, ?_, ?_⟩ <;> (intro hc; (try simp at hc); (all_goals first | (exfalso; omega) | skip))))
  all_goals (refine ⟨_, by simp [pf280]; rfl, ?_⟩; exact ⟨(d365 (newC b hb)).1, rfl, q⟩)

theorem e287_ex (b : List Int) (hb : b.length ≤ 1048576) : ∃ r : List XDead × Int, Gw TT 287 [.one (.ro false (.sl 1 (b.map eb)))] = some (.tup [.one (.own (.sl 3 (r.1.map XDead.e))), vi r.2], []) ∧ (r.1.length ≤ 4 ∧ 0 ≤ r.2 ∧ r.2 ≤ 6 ∧ ∀ y ∈ r.1, 0 ≤ y.At) := by
  suffices h0 : ∃ y, Gw TT 287 [.one (.ro false (.sl 1 (b.map eb)))] = some y ∧ ∃ r : List XDead × Int, y = (.tup [.one (.own (.sl 3 (r.1.map XDead.e))), vi r.2], []) ∧ (r.1.length ≤ 4 ∧ 0 ≤ r.2 ∧ r.2 ≤ 6 ∧ ∀ y ∈ r.1, 0 ≤ y.At) by
    obtain ⟨y, h1, r, rfl, h2⟩ := h0
    exact ⟨r, h1, h2⟩
  refine Gw_ofE (F := pf287) rfl rfl ?_
  show Wp _ pb287 _ _
  unfold pb287
  have q := p364 (newC b hb)
  repeat' (first
    | with_reducible (first | refine wp_seq ?_ | refine wp_blk ?_ | refine wp_skip ?_ | refine wp_exit ?_ | refine wp_ret ?_ | refine seqQ_norm ?_ | refine seqQ_ret ?_ | refine seqQ_exit ?_ | refine blkQ_norm ?_ | refine blkQ_ret ?_ | refine blkQ_exit ?_ | refine loopQ_norm ?_ | refine loopQ_exit ?_ | refine loopQ_ret ?_ | refine endQ_ret ?_ | refine endQ_norm ?_ | refine endE_ret ?_ | refine endE_norm ?_ | refine endI_ret ?_ | refine endI_norm ?_)
    | (with_reducible refine wp_regK fun K hK => ?_
       simp[hb]
       repeat' (with_reducible first | refine hK _ ?_ | (refine psel ?_ ?_ <;> (intro hc; (try rw [Decidable.not_not] at hc); first | (exfalso; omega) | (try simp [hc, hb]))))
       all_goals (clear hK; clear K))
    | (with_reducible refine wp_condE ?_
       refine ⟨_, rfl, ?_, ?_⟩ <;> (intro hc; (try simp at hc); (all_goals first | (exfalso; omega) | skip))))
  all_goals (refine ⟨_, by simp [pf287]; rfl, ?_⟩; exact ⟨(d364 (newC b hb)).1, rfl, q⟩)

theorem e294_ex (b : List Int) (hb : b.length ≤ 1048576) : ∃ r : List XDead × Int, Gw TT 294 [.one (.ro false (.sl 1 (b.map eb)))] = some (.tup [.one (.own (.sl 3 (r.1.map XDead.e))), vi r.2], []) ∧ (r.1.length ≤ 4) := by
  suffices h0 : ∃ y, Gw TT 294 [.one (.ro false (.sl 1 (b.map eb)))] = some y ∧ ∃ r : List XDead × Int, y = (.tup [.one (.own (.sl 3 (r.1.map XDead.e))), vi r.2], []) ∧ (r.1.length ≤ 4) by
    obtain ⟨y, h1, r, rfl, h2⟩ := h0
    exact ⟨r, h1, h2⟩
  refine Gw_ofE (F := pf294) rfl rfl ?_
  show Wp _ pb294 _ _
  unfold pb294
  have q := p364 (newC b hb)
  repeat' (first
    | with_reducible (first | refine wp_seq ?_ | refine wp_blk ?_ | refine wp_skip ?_ | refine wp_exit ?_ | refine wp_ret ?_ | refine seqQ_norm ?_ | refine seqQ_ret ?_ | refine seqQ_exit ?_ | refine blkQ_norm ?_ | refine blkQ_ret ?_ | refine blkQ_exit ?_ | refine loopQ_norm ?_ | refine loopQ_exit ?_ | refine loopQ_ret ?_ | refine endQ_ret ?_ | refine endQ_norm ?_ | refine endE_ret ?_ | refine endE_norm ?_ | refine endI_ret ?_ | refine endI_norm ?_)
    | (with_reducible refine wp_regK fun K hK => ?_
       simp[hb]
       repeat' (with_reducible first | refine hK _ ?_ | (refine psel ?_ ?_ <;> (intro hc; (try rw [Decidable.not_not] at hc); first | (exfalso; omega) | (try simp [hc, hb]))))
       all_goals (clear hK; clear K))
    | (with_reducible refine wp_condE ?_
       refine ⟨_, rfl, ?_, ?_⟩ <;> (intro hc; (try simp at hc); (all_goals first | (exfalso; omega) | skip))))
  all_goals (refine ⟨_, by simp [pf294]; rfl, ?_⟩; exact ⟨((d364 (newC b hb)).1.1, IntKind.wrap .i64 ((d375 (d364 (newC b hb)).2 6).1 - 1)), rfl, q.1⟩)

theorem e278_ex (b : List Int) (hb : b.length ≤ 1048576) : ∃ r : List XDead × Int, Gw TT 278 [.one (.ro false (.sl 1 (b.map eb)))] = some (.tup [.one (.own (.sl 3 (r.1.map XDead.e))), vi r.2], []) ∧ (r.1.length ≤ 4) := by
  suffices h0 : ∃ y, Gw TT 278 [.one (.ro false (.sl 1 (b.map eb)))] = some y ∧ ∃ r : List XDead × Int, y = (.tup [.one (.own (.sl 3 (r.1.map XDead.e))), vi r.2], []) ∧ (r.1.length ≤ 4) by
    obtain ⟨y, h1, r, rfl, h2⟩ := h0
    exact ⟨r, h1, h2⟩
  refine Gw_ofE (F := pf278) rfl rfl ?_
  show Wp _ pb278 _ _
  unfold pb278
  have q := p364 (newC b hb)
  repeat' (first
    | with_reducible (first | refine wp_seq ?_ | refine wp_blk ?_ | refine wp_skip ?_ | refine wp_exit ?_ | refine wp_ret ?_ | refine seqQ_norm ?_ | refine seqQ_ret ?_ | refine seqQ_exit ?_ | refine blkQ_norm ?_ | refine blkQ_ret ?_ | refine blkQ_exit ?_ | refine loopQ_norm ?_ | refine loopQ_exit ?_ | refine loopQ_ret ?_ | refine endQ_ret ?_ | refine endQ_norm ?_ | refine endE_ret ?_ | refine endE_norm ?_ | refine endI_ret ?_ | refine endI_norm ?_)
    | (with_reducible refine wp_regK fun K hK => ?_
       simp[hb]
       repeat' (with_reducible first | refine hK _ ?_ | (refine psel ?_ ?_ <;> (intro hc; (try rw [Decidable.not_not] at hc); first | (exfalso; omega) | (try simp [hc, hb]))))
       all_goals (clear hK; clear K))
    | (with_reducible refine wp_condE ?_
       refine ⟨_, rfl, ?_, ?_⟩ <;> (intro hc; (try simp at hc); (all_goals first | (exfalso; omega) | skip))))
  all_goals (refine ⟨_, by simp [pf278]; rfl, ?_⟩; exact ⟨((d364 (newC b hb)).1.1, (d375 (d364 (newC b hb)).2 5).1), rfl, q.1⟩)

theorem e283_ex (b : List Int) (hb : b.length ≤ 1048576) : ∃ r : List Int × Int, Gw TT 283 [.one (.ro false (.sl 1 (b.map eb)))] = some (.tup [.one (.own (.sl 1 (r.1.map ei))), vi r.2], []) ∧ (r.1.length ≤ 5) := by
  suffices h0 : ∃ y, Gw TT 283 [.one (.ro false (.sl 1 (b.map eb)))] = some y ∧ ∃ r : List Int × Int, y = (.tup [.one (.own (.sl 1 (r.1.map ei))), vi r.2], []) ∧ (r.1.length ≤ 5) by
    obtain ⟨y, h1, r, rfl, h2⟩ := h0
    exact ⟨r, h1, h2⟩
  refine Gw_ofE (F := pf283) rfl rfl ?_
  show Wp _ pb283 _ _
  unfold pb283
  have q := p365 (newC b hb)
  obtain ⟨r, g⟩ : ∃ r : Int × XCur, Gw TT 378 [.ptr [.ro false (.sl 1 ((d382 (d365 (newC b hb)).2 5).2.b.map eb)), .ro false (di ((d382 (d365 (newC b hb)).2 5).2.i : Nat)), .ro false (di (d382 (d365 (newC b hb)).2 5).2.h)], .one (.ro true (.sl 1 [[di (-2)], [di (IntKind.wrap .i64 ((d365 (newC b hb)).1.2 + 1))]]))] = some (vi r.1, [(0, 0, .ro false (.sl 1 (r.2.b.map eb))), (0, 1, .ro false (di (r.2.i : Nat))), (0, 2, .ro false (di r.2.h))]) := ⟨_, t378 (d382 (d365 (newC b hb)).2 5).2 true [[di (-2)], [di (IntKind.wrap .i64 ((d365 (newC b hb)).1.2 + 1))]] (by simp) (by simp) (by simp)⟩
  have hq1 : ((d365 (newC b hb)).1.1.length + 1) * 8 ≤ 70368744177664 := by omega
  repeat' (first
    | with_reducible (first | refine wp_seq ?_ | refine wp_blk ?_ | refine wp_skip ?_ | refine wp_exit ?_ | refine wp_ret ?_ | refine seqQ_norm ?_ | refine seqQ_ret ?_ | refine seqQ_exit ?_ | refine blkQ_norm ?_ | refine blkQ_ret ?_ | refine blkQ_exit ?_ | refine loopQ_norm ?_ | refine loopQ_exit ?_ | refine loopQ_ret ?_ | refine endQ_ret ?_ | refine endQ_norm ?_ | refine endE_ret ?_ | refine endE_norm ?_ | refine endI_ret ?_ | refine endI_norm ?_)
    | (with_reducible refine wp_regK fun K hK => ?_
       simp[hb, g, hq1]
       repeat' (with_reducible first | refine hK _ ?_ | (refine psel ?_ ?_ <;> (intro hc; (try rw [Decidable.not_not] at hc); first | (exfalso; omega) | (try simp [hc, hb, g, hq1]))))
       all_goals (clear hK; clear K))
    | (with_reducible refine wp_condE ?_
       refine ⟨_, rfl, ?_, ?_⟩ <;> (intro hc; (try simp at hc); (all_goals first | (exfalso; omega) | skip))))
  all_goals first | (exfalso; omega) | (refine ⟨_, by simp [pf283]; rfl, ?_⟩; exact ⟨((d365 (newC b hb)).1.1, (d365 (newC b hb)).1.2), rfl, by simp only; omega⟩) | (refine ⟨_, by simp [pf283]; rfl, ?_⟩; exact ⟨((d365 (newC b hb)).1.1 ++ [r.1], (d365 (newC b hb)).1.2), by simp, by simp only [List.length_append, List.length_cons, List.length_nil]; omega⟩) | skip

@[simp] theorem t200 (k0 k1 : Bool) (l : List XDead) (h : l.length ≤ 1048576) : Gw TT 200 [.one (.ro k0 (.sl 3 (l.map XDead.e))), .one (.ro k1 (.sl 3 (l.map XDead.e)))] = some (vb true, []) := by
  refine Gw_of (F := pf200) rfl rfl ?_
  show Wp _ pb200 _ _
  unfold pb200
  repeat' (first
    | with_reducible (first | refine wp_seq ?_ | refine wp_blk ?_ | refine wp_skip ?_ | refine wp_exit ?_ | refine wp_ret ?_ | refine seqQ_norm ?_ | refine seqQ_ret ?_ | refine seqQ_exit ?_ | refine blkQ_norm ?_ | refine blkQ_ret ?_ | refine blkQ_exit ?_ | refine loopQ_norm ?_ | refine loopQ_exit ?_ | refine loopQ_ret ?_ | refine endQ_ret ?_ | refine endQ_norm ?_ | refine endE_ret ?_ | refine endE_norm ?_ | refine endI_ret ?_ | refine endI_norm ?_)
    | (with_reducible refine wp_regK fun K hK => ?_
       simp
       repeat' (with_reducible first | refine hK _ ?_ | (refine psel ?_ ?_ <;> (intro hc; (try rw [Decidable.not_not] at hc); first | (exfalso; omega) | (try simp [hc]))))
       all_goals (clear hK; clear K))
    | (with_reducible refine wp_condE ?_
       refine ⟨_, rfl, ?_, ?_⟩ <;> (intro hc; (try simp at hc); (all_goals first | (exfalso; omega) | skip))))
  refine wp_loopI (σ := List XDead × List XDead) (fun s => [(0, AV.v k0 (D.sl 3 (l.map XDead.e)), none), (1, AV.v k1 (D.sl 3 (l.map XDead.e)), none), (5, AV.v false (di ((s.1.length : Nat) : Int)), none)]) (fun s => l = s.1 ++ s.2) (fun s => s.2.length) ([], l) (by simp) rfl ?_
  rintro ⟨pre, rest⟩ h1
  simp only at h1
  subst h1
  simp only [List.length_append, List.length_cons] at h
  rcases rest with _ | ⟨d, rest⟩
  · unfold pl200_0
    repeat' (first
      | with_reducible (first | refine wp_seq ?_ | refine wp_blk ?_ | refine wp_skip ?_ | refine wp_exit ?_ | refine wp_ret ?_ | refine seqQ_norm ?_ | refine seqQ_ret ?_ | refine seqQ_exit ?_ | refine blkQ_norm ?_ | refine blkQ_ret ?_ | refine blkQ_exit ?_ | refine loopQ_norm ?_ | refine loopQ_exit ?_ | refine loopQ_ret ?_ | refine endQ_ret ?_ | refine endQ_norm ?_ | refine endE_ret ?_ | refine endE_norm ?_ | refine endI_ret ?_ | refine endI_norm ?_)
      | (with_reducible refine wp_regK fun K hK => ?_
         simp
         repeat' (with_reducible first | refine hK _ ?_ | (refine psel ?_ ?_ <;> (intro hc; (try rw [Decidable.not_not] at hc); first | (exfalso; omega) | (try simp [hc]))))
         all_goals (clear hK; clear K))
      | (with_reducible refine wp_condE ?_
         refine ⟨_, rfl, ?_, ?_⟩ <;> (intro hc; (try simp at hc); (all_goals first | (exfalso; omega) | skip))))
    all_goals first | (simp [pf200]; done) | (exfalso; omega)
  · unfold pl200_0
    simp only [List.length_cons] at h
    have hw : IntKind.wrap .i64 ((pre.length : Int) + 1) = (pre.length : Int) + 1 := wrap_i64 (by omega) (by omega)
    repeat' (first
      | with_reducible (first | refine wp_seq ?_ | refine wp_blk ?_ | refine wp_skip ?_ | refine wp_exit ?_ | refine wp_ret ?_ | refine seqQ_norm ?_ | refine seqQ_ret ?_ | refine seqQ_exit ?_ | refine blkQ_norm ?_ | refine blkQ_ret ?_ | refine blkQ_exit ?_ | refine loopQ_norm ?_ | refine loopQ_exit ?_ | refine loopQ_ret ?_ | refine endQ_ret ?_ | refine endQ_norm ?_ | refine endE_ret ?_ | refine endE_norm ?_ | refine endI_ret ?_ | refine endI_norm ?_)
      | (with_reducible refine wp_regK fun K hK => ?_
         simp[hw]
         repeat' (with_reducible first | refine hK _ ?_ | (refine psel ?_ ?_ <;> (intro hc; (try rw [Decidable.not_not] at hc); first | (exfalso; omega) | (try simp [hc, hw]))))
         all_goals (clear hK; clear K))
      | (with_reducible refine wp_condE ?_
         refine ⟨_, rfl, ?_, ?_⟩ <;> (intro hc; (try simp at hc); (all_goals first | (exfalso; omega) | skip))))
    all_goals first | exact ⟨(pre ++ [d], rest), by simp, by simp, by simp⟩ | (exfalso; omega)

def pinsOkF (e : Int) : List Int → Bool
  | [] => true
  | p :: l => if p ≠ -1 ∧ ¬ (0 ≤ p ∧ p ≤ e) then false else pinsOkF e l

@[simp] theorem t38 (k0 : Bool) (l : List Int) (e : Int) (h : l.length ≤ 1048576) : Gw TT 38 [.one (.ro k0 (.sl 1 (l.map ei))), vi e] = some (vb (pinsOkF e l), []) := by
  refine Gw_of (F := pf38) rfl rfl ?_
  show Wp _ pb38 _ _
  unfold pb38
  repeat' (first
    | with_reducible (first | refine wp_seq ?_ | refine wp_blk ?_ | refine wp_skip ?_ | refine wp_exit ?_ | refine wp_ret ?_ | refine seqQ_norm ?_ | refine seqQ_ret ?_ | refine seqQ_exit ?_ | refine blkQ_norm ?_ | refine blkQ_ret ?_ | refine blkQ_exit ?_ | refine loopQ_norm ?_ | refine loopQ_exit ?_ | refine loopQ_ret ?_ | refine endQ_ret ?_ | refine endQ_norm ?_ | refine endE_ret ?_ | refine endE_norm ?_ | refine endI_ret ?_ | refine endI_norm ?_)
    | (with_reducible refine wp_regK fun K hK => ?_
       simp
       repeat' (with_reducible first | refine hK _ ?_ | (refine psel ?_ ?_ <;> (intro hc; (try rw [Decidable.not_not] at hc); first | (exfalso; omega) | (try simp [hc]))))
       all_goals (clear hK; clear K))
    | (with_reducible refine wp_condE ?_
       refine ⟨_, rfl, ?_, ?_⟩ <;> (intro hc; (try simp at hc); (all_goals first | (exfalso; omega) | skip))))
  refine wp_loopI (σ := List (Int) × List (Int)) (fun s => [(1, AV.v false (di e), none), (7, AV.v k0 (D.sl 1 (l.map ei)), none), (8, AV.v false (di (l.length : Nat)), none), (9, AV.v false (di ((s.1.length : Nat) : Int)), none)]) (fun s => l = s.1 ++ s.2 ∧ pinsOkF e s.2 = pinsOkF e l) (fun s => s.2.length) ([], l) (by simp) ⟨rfl, rfl⟩ ?_
  rintro ⟨pre, rest⟩ ⟨h1, h2⟩
  simp only at h1 h2
  subst h1
  simp only [List.length_append, List.length_cons] at h
  rcases rest with _ | ⟨d, rest⟩
  · unfold pl38_0
    simp only [pinsOkF] at h2
    repeat' (first
      | with_reducible (first | refine wp_seq ?_ | refine wp_blk ?_ | refine wp_skip ?_ | refine wp_exit ?_ | refine wp_ret ?_ | refine seqQ_norm ?_ | refine seqQ_ret ?_ | refine seqQ_exit ?_ | refine blkQ_norm ?_ | refine blkQ_ret ?_ | refine blkQ_exit ?_ | refine loopQ_norm ?_ | refine loopQ_exit ?_ | refine loopQ_ret ?_ | refine endQ_ret ?_ | refine endQ_norm ?_ | refine endE_ret ?_ | refine endE_norm ?_ | refine endI_ret ?_ | refine endI_norm ?_)
      | (with_reducible refine wp_regK fun K hK => ?_
         simp
         repeat' (with_reducible first | refine hK _ ?_ | (refine psel ?_ ?_ <;> (intro hc; (try rw [Decidable.not_not] at hc); first | (exfalso; omega) | (try simp [hc]))))
         all_goals (clear hK; clear K))
      | (with_reducible refine wp_condE ?_
         refine ⟨_, rfl, ?_, ?_⟩ <;> (intro hc; (try simp at hc); (all_goals first | (exfalso; omega) | skip))))
    all_goals first | (simp_all [pf38]; done) | (simp_all [pf38]; omega)
  · unfold pl38_0
    simp only [List.length_cons] at h
    simp only [pinsOkF] at h2
    have hw : IntKind.wrap .i64 ((pre.length : Int) + 1) = (pre.length : Int) + 1 := wrap_i64 (by omega) (by omega)
    repeat' (first
      | with_reducible (first | refine wp_seq ?_ | refine wp_blk ?_ | refine wp_skip ?_ | refine wp_exit ?_ | refine wp_ret ?_ | refine seqQ_norm ?_ | refine seqQ_ret ?_ | refine seqQ_exit ?_ | refine blkQ_norm ?_ | refine blkQ_ret ?_ | refine blkQ_exit ?_ | refine loopQ_norm ?_ | refine loopQ_exit ?_ | refine loopQ_ret ?_ | refine endQ_ret ?_ | refine endQ_norm ?_ | refine endE_ret ?_ | refine endE_norm ?_ | refine endI_ret ?_ | refine endI_norm ?_)
      | (with_reducible refine wp_regK fun K hK => ?_
         simp[hw]
         repeat' (with_reducible first | refine hK _ ?_ | (refine psel ?_ ?_ <;> (intro hc; (try rw [Decidable.not_not] at hc); first | (exfalso; omega) | (try simp [hc, hw]))))
         all_goals (clear hK; clear K))
      | (with_reducible refine wp_condE ?_
         refine ⟨_, rfl, ?_, ?_⟩ <;> (intro hc; (try simp at hc); (all_goals first | (exfalso; omega) | skip))))
    all_goals first | (refine ⟨(pre ++ [d], rest), ?_, ⟨?_, ?_⟩, ?_⟩; (focus (first | (simp; done) | (simp_all; done))); (focus (simp; done)); (focus (refine Eq.trans ?_ h2; clear h2; first | (simp [*]; done) | (simp_all; done) | (split <;> simp_all <;> omega) | (split <;> first | (exfalso; omega) | (simp_all; done)))); (focus (simp; done))) | (simp_all [pf38]; done) | (simp_all [pf38]; omega) | (split at h2 <;> first | (exfalso; omega) | (simp_all [pf38]; done))

@[simp] theorem t318 (k0 : Bool) (l : List Int) (e : Int) (h : l.length ≤ 1048576) : Gw TT 318 [.one (.ro k0 (.sl 1 (l.map ei))), vi e] = some (vb (pinsOkF e l), []) := by
  refine Gw_of (F := pf318) rfl rfl ?_
  show Wp _ pb318 _ _
  unfold pb318
  repeat' (first
    | with_reducible (first | refine wp_seq ?_ | refine wp_blk ?_ | refine wp_skip ?_ | refine wp_exit ?_ | refine wp_ret ?_ | refine seqQ_norm ?_ | refine seqQ_ret ?_ | refine seqQ_exit ?_ | refine blkQ_norm ?_ | refine blkQ_ret ?_ | refine blkQ_exit ?_ | refine loopQ_norm ?_ | refine loopQ_exit ?_ | refine loopQ_ret ?_ | refine endQ_ret ?_ | refine endQ_norm ?_ | refine endE_ret ?_ | refine endE_norm ?_ | refine endI_ret ?_ | refine endI_norm ?_)
    | (with_reducible refine wp_regK fun K hK => ?_
       simp
       repeat' (with_reducible first | refine hK _ ?_ | (refine psel ?_ ?_ <;> (intro hc; (try rw [Decidable.not_not] at hc); first | (exfalso; omega) | (try simp [hc]))))
       all_goals (clear hK; clear K))
    | (with_reducible refine wp_condE ?_
       refine ⟨_, rfl, ?_, ?_⟩ <;> (intro hc; (try simp at hc); (all_goals first | (exfalso; omega) | skip))))
  refine wp_loopI (σ := List (Int) × List (Int)) (fun s => [(0, AV.v k0 (D.sl 1 (l.map ei)), none), (1, AV.v false (di e), none), (5, AV.v false (di ((s.1.length : Nat) : Int)), none)]) (fun s => l = s.1 ++ s.2 ∧ pinsOkF e s.2 = pinsOkF e l) (fun s => s.2.length) ([], l) (by simp) ⟨rfl, rfl⟩ ?_
  rintro ⟨pre, rest⟩ ⟨h1, h2⟩
  simp only at h1 h2
  subst h1
  simp only [List.length_append, List.length_cons] at h
  rcases rest with _ | ⟨d, rest⟩
  · unfold pl318_0
    simp only [pinsOkF] at h2
    repeat' (first
      | with_reducible (first | refine wp_seq ?_ | refine wp_blk ?_ | refine wp_skip ?_ | refine wp_exit ?_ | refine wp_ret ?_ | refine seqQ_norm ?_ | refine seqQ_ret ?_ | refine seqQ_exit ?_ | refine blkQ_norm ?_ | refine blkQ_ret ?_ | refine blkQ_exit ?_ | refine loopQ_norm ?_ | refine loopQ_exit ?_ | refine loopQ_ret ?_ | refine endQ_ret ?_ | refine endQ_norm ?_ | refine endE_ret ?_ | refine endE_norm ?_ | refine endI_ret ?_ | refine endI_norm ?_)
      | (with_reducible refine wp_regK fun K hK => ?_
         simp
         repeat' (with_reducible first | refine hK _ ?_ | (refine psel ?_ ?_ <;> (intro hc; (try rw [Decidable.not_not] at hc); first | (exfalso; omega) | (try simp [hc]))))
         all_goals (clear hK; clear K))
      | (with_reducible refine wp_condE ?_
         refine ⟨_, rfl, ?_, ?_⟩ <;> (intro hc; (try simp at hc); (all_goals first | (exfalso; omega) | skip))))
    all_goals first | (simp_all [pf318]; done) | (simp_all [pf318]; omega)
  · unfold pl318_0
    simp only [List.length_cons] at h
    simp only [pinsOkF] at h2
    have hw : IntKind.wrap .i64 ((pre.length : Int) + 1) = (pre.length : Int) + 1 := wrap_i64 (by omega) (by omega)
    repeat' (first
      | with_reducible (first | refine wp_seq ?_ | refine wp_blk ?_ | refine wp_skip ?_ | refine wp_exit ?_ | refine wp_ret ?_ | refine seqQ_norm ?_ | refine seqQ_ret ?_ | refine seqQ_exit ?_ | refine blkQ_norm ?_ | refine blkQ_ret ?_ | refine blkQ_exit ?_ | refine loopQ_norm ?_ | refine loopQ_exit ?_ | refine loopQ_ret ?_ | refine endQ_ret ?_ | refine endQ_norm ?_ | refine endE_ret ?_ | refine endE_norm ?_ | refine endI_ret ?_ | refine endI_norm ?_)
      | (with_reducible refine wp_regK fun K hK => ?_
         simp[hw]
         repeat' (with_reducible first | refine hK _ ?_ | (refine psel ?_ ?_ <;> (intro hc; (try rw [Decidable.not_not] at hc); first | (exfalso; omega) | (try simp [hc, hw]))))
         all_goals (clear hK; clear K))
      | (with_reducible refine wp_condE ?_
         refine ⟨_, rfl, ?_, ?_⟩ <;> (intro hc; (try simp at hc); (all_goals first | (exfalso; omega) | skip))))
    all_goals first | (refine ⟨(pre ++ [d], rest), ?_, ⟨?_, ?_⟩, ?_⟩; (focus (first | (simp; done) | (simp_all; done))); (focus (simp; done)); (focus (refine Eq.trans ?_ h2; clear h2; first | (simp [*]; done) | (simp_all; done) | (split <;> simp_all <;> omega) | (split <;> first | (exfalso; omega) | (simp_all; done)))); (focus (simp; done))) | (simp_all [pf318]; done) | (simp_all [pf318]; omega) | (split at h2 <;> first | (exfalso; omega) | (simp_all [pf318]; done))

theorem mayAdv_both {e : Int} : ∀ {l : List Int}, mayAdv e l = true → mayAdv (e + 1) l = true → ∀ p ∈ l, p = -1
  | [], _, _ => by simp
  | q :: l, h1, h2 => by
    simp only [mayAdv] at h1 h2
    split at h1
    · cases h1
    · rename_i a
      split at h2
      · cases h2
      · rename_i b
        intro p hp
        rcases List.mem_cons.1 hp with rfl | hp
        · omega
        · exact mayAdv_both h1 h2 p hp

theorem oldPin_may {e : Int} (h0 : 0 ≤ e) : ∀ {l : List Int}, mayAdv e l = true → ∀ o, o = -1 ∨ o = e → oldPin o l = -1 ∨ oldPin o l = e
  | [], _, o, ho => ho
  | q :: l, h1, o, ho => by
    simp only [mayAdv] at h1
    split at h1
    · cases h1
    · rename_i a
      simp only [oldPin]
      split
      · exact oldPin_may h0 h1 q (by omega)
      · exact oldPin_may h0 h1 o ho

theorem oldPin_is {e : Int} (h0 : 0 ≤ e) {l : List Int} (h : mayAdv e l = true) : (if oldPin (-1) l < 0 then e else oldPin (-1) l) = e := by
  rcases oldPin_may h0 h (-1) (.inl rfl) with h1 | h1
  · rw [h1]; simp
  · rw [h1]; simp

theorem waits_le (e : Int) : ∀ (l : List XDead) (n : Int), 0 ≤ n → n + l.length ≤ 1048576 → n ≤ waitsF e n l ∧ waitsF e n l ≤ n + l.length
  | [], n, _, _ => by simp [waitsF]
  | d :: l, n, h0, h => by
    simp only [List.length_cons] at h
    simp only [waitsF, List.length_cons]
    split
    · have := waits_le e l n h0 (by omega)
      omega
    · rw [wrap_i64 (by omega) (by omega)]
      have := waits_le e l (n + 1) (by omega) (by omega)
      omega

theorem ripe_none (e : Int) : ∀ (l : List XDead) (n i : Int), 0 ≤ n → 0 ≤ i → n + l.length ≤ 1048576 → ripeF e i l < 0 → waitsF e n l = n + l.length
  | [], n, i, _, _, _, _ => by simp [waitsF]
  | d :: l, n, i, h0, hi, h, hr => by
    simp only [List.length_cons] at h
    simp only [ripeF] at hr
    split at hr
    · omega
    · rename_i hd
      simp only [waitsF, if_neg hd, List.length_cons]
      rw [wrap_i64 (by omega) (by omega), ripe_none e l (n + 1) (i + 1) (by omega) (by omega) (by omega) hr]
      omega

theorem ripe_some (e : Int) : ∀ (l : List XDead) (n i : Int), 0 ≤ n → 0 ≤ i → n + l.length ≤ 1048576 → 0 ≤ ripeF e i l →
    waitsF e n l < n + l.length ∧ ∃ pre d rest, l = pre ++ d :: rest ∧ ripeF e i l = i + (pre.length : Int) ∧ ripeB e d.At = true
  | [], n, i, _, _, _, hr => by simp [ripeF] at hr
  | d :: l, n, i, h0, hi, h, hr => by
    simp only [List.length_cons] at h
    simp only [ripeF] at hr ⊢
    split at hr
    · rename_i hd
      simp only [waitsF, if_pos hd, List.length_cons]
      have := waits_le e l n h0 (by omega)
      exact ⟨by omega, [], d, l, rfl, by simp, hd⟩
    · rename_i hd
      simp only [waitsF, if_neg hd, List.length_cons]
      rw [wrap_i64 (by omega) (by omega)]
      obtain ⟨h1, pre, d', rest, h2, h3, h4⟩ := ripe_some e l (n + 1) (i + 1) (by omega) (by omega) (by omega) hr
      refine ⟨by omega, d :: pre, d', rest, by rw [h2]; rfl, ?_, h4⟩
      rw [h3]; simp only [List.length_cons]; omega

theorem t91 (code : List Int) (hok_code : code.length ≤ 9223372036854775807) : Gw TT 91 [.one (.ro false (.sl 1 (code.map eb)))] = some (vb true, []) := by
  refine Gw_of (F := pf91) rfl rfl ?_
  show Wp _ pb91 _ _
  unfold pb91
  by_cases hb : code.length ≤ 1048576
  · have hbg : ¬ (1048576 < (code.length : Int)) := by omega
    obtain ⟨⟨p, e⟩, g1, p1, p2, p3⟩ := e280_ex code hb
    obtain ⟨⟨x, f⟩, g2, x1, x2, x3, x4⟩ := e287_ex code hb
    obtain ⟨⟨d, w⟩, g3, d1⟩ := e294_ex code hb
    obtain ⟨⟨hd, hn⟩, g4, hd1⟩ := e278_ex code hb
    obtain ⟨⟨g, m⟩, g5, gl⟩ := e283_ex code hb
    simp only at g1 p1 p2 p3 g2 x1 x2 x3 x4 g3 d1 g4 hd1 g5 gl
    have l1 : p.length ≤ 1048576 := by omega
    have l2 : x.length ≤ 1048576 := by omega
    have l3 : d.length ≤ 1048576 := by omega
    have l4 : hd.length ≤ 1048576 := by omega
    have l5 : g.length ≤ 1048576 := by omega
    have l6 : (withoutF d w).length ≤ 1048576 := Nat.le_trans (withoutF_len d w) l3
    have we : IntKind.wrap .i64 (e + 1) = e + 1 := wrap_i64 (by omega) (by omega)
    by_cases hr : ripeF f 0 x < 0
    · have hW : waitsF f 0 x = (x.length : Int) := by have := ripe_none f x 0 0 (by omega) (by omega) (by omega) hr; omega
      repeat' (first
        | with_reducible (first | refine wp_seq ?_ | refine wp_blk ?_ | refine wp_skip ?_ | refine wp_exit ?_ | refine wp_ret ?_ | refine seqQ_norm ?_ | refine seqQ_ret ?_ | refine seqQ_exit ?_ | refine blkQ_norm ?_ | refine blkQ_ret ?_ | refine blkQ_exit ?_ | refine loopQ_norm ?_ | refine loopQ_exit ?_ | refine loopQ_ret ?_ | refine endQ_ret ?_ | refine endQ_norm ?_ | refine endE_ret ?_ | refine endE_norm ?_ | refine endI_ret ?_ | refine endI_norm ?_)
        | (with_reducible refine wp_regK fun K hK => ?_
           simp[hok_code, hbg, g1, g2, g3, g4, g5, l1, l2, l3, l4, l5, l6, we, hr, hW]
           repeat' (with_reducible first | refine hK _ ?_ | (refine psel ?_ ?_ <;> (intro hc; (try rw [Decidable.not_not] at hc); first | (exfalso; omega) | (try simp [hc, hok_code, hbg, g1, g2, g3, g4, g5, l1, l2, l3, l4, l5, l6, we, hr, hW]))))
           all_goals (clear hK; clear K))
        | (with_reducible refine wp_condE ?_
           refine ⟨_, rfl, ?_, ?_⟩ <;> (intro hc; (try simp at hc); (all_goals first | (exfalso; omega) | skip))))
      · have hall := mayAdv_both (e := e) (l := p) (by assumption) (by assumption)
        refine wp_loopI (σ := List Int × List Int) (fun s => [(3, AV.pl 3 0 [], some (Rt.vir [C.own (D.sl 1 (p.map ei)), C.ro false (di e)])), (4, AV.v false (di e), none), (5, AV.pl 5 0 [], some (Rt.vir [C.own (D.sl 3 (x.map XDead.e)), C.ro false (di f)])), (6, AV.v false (di f), none), (7, AV.v false (di (ripeF f 0 x)), none), (14, AV.v false (di ((s.1.length : Nat) : Int)), none)]) (fun s => p = s.1 ++ s.2) (fun s => s.2.length) ([], p) (by simp) rfl ?_
        rintro ⟨pre2, rest2⟩ hp
        simp only at hp
        rcases rest2 with _ | ⟨q, rest2⟩
        · rw [List.append_nil] at hp
          subst hp
          unfold pl91_0
          repeat' (first
            | with_reducible (first | refine wp_seq ?_ | refine wp_blk ?_ | refine wp_skip ?_ | refine wp_exit ?_ | refine wp_ret ?_ | refine seqQ_norm ?_ | refine seqQ_ret ?_ | refine seqQ_exit ?_ | refine blkQ_norm ?_ | refine blkQ_ret ?_ | refine blkQ_exit ?_ | refine loopQ_norm ?_ | refine loopQ_exit ?_ | refine loopQ_ret ?_ | refine endQ_ret ?_ | refine endQ_norm ?_ | refine endE_ret ?_ | refine endE_norm ?_ | refine endI_ret ?_ | refine endI_norm ?_)
            | (with_reducible refine wp_regK fun K hK => ?_
               simp[hok_code, hbg, g1, g2, g3, g4, g5, l1, l2, l3, l4, l5, l6, we, hr, hW]
               repeat' (with_reducible first | refine hK _ ?_ | (refine psel ?_ ?_ <;> (intro hc; (try rw [Decidable.not_not] at hc); first | (exfalso; omega) | (try simp [hc, hok_code, hbg, g1, g2, g3, g4, g5, l1, l2, l3, l4, l5, l6, we, hr, hW]))))
               all_goals (clear hK; clear K))
            | (with_reducible refine wp_condE ?_
               refine ⟨_, rfl, ?_, ?_⟩ <;> (intro hc; (try simp at hc); (all_goals first | (exfalso; omega) | skip))))
          all_goals first | (simp [pf91, hW]; done) | (have := oldPin_is p2 ‹mayAdv e p = true›; simp [pf91, this, hW]; done) | (have := oldPin_is p2 (l := p) (by simpa using ‹¬mayAdv e p = false›); simp [pf91, this, hW]; done) | (exfalso; omega) | skip
        · have hq : q = -1 := hall q (by rw [hp]; simp)
          have hpl : p.length = pre2.length + (rest2.length + 1) := by rw [hp]; simp
          have hw : IntKind.wrap .i64 ((pre2.length : Int) + 1) = (pre2.length : Int) + 1 := wrap_i64 (by omega) (by omega)
          have hpg : (p.map ei)[pre2.length]? = some [di (-1)] := by rw [hp, hq]; simp
          have hpg2 : p[pre2.length]? = some (-1) := by rw [hp, hq]; simp
          have hlt : (pre2.length : Int) < (p.length : Int) := by omega
          have hlt2 : pre2.length < p.length := by omega
          obtain ⟨_, hpe⟩ := List.getElem?_eq_some_iff.1 hpg2
          unfold pl91_0
          repeat' (first
            | with_reducible (first | refine wp_seq ?_ | refine wp_blk ?_ | refine wp_skip ?_ | refine wp_exit ?_ | refine wp_ret ?_ | refine seqQ_norm ?_ | refine seqQ_ret ?_ | refine seqQ_exit ?_ | refine blkQ_norm ?_ | refine blkQ_ret ?_ | refine blkQ_exit ?_ | refine loopQ_norm ?_ | refine loopQ_exit ?_ | refine loopQ_ret ?_ | refine endQ_ret ?_ | refine endQ_norm ?_ | refine endE_ret ?_ | refine endE_norm ?_ | refine endI_ret ?_ | refine endI_norm ?_)
            | (with_reducible refine wp_regK fun K hK => ?_
               simp[hw, hpg, hpg2, hpe, hlt, hlt2]
               repeat' (with_reducible first | refine hK _ ?_ | (refine psel ?_ ?_ <;> (intro hc; (try rw [Decidable.not_not] at hc); first | (exfalso; omega) | (try simp [hc, hw, hpg, hpg2, hpe, hlt, hlt2]))))
               all_goals (clear hK; clear K))
            | (with_reducible refine wp_condE ?_
               refine ⟨_, rfl, ?_, ?_⟩ <;> (intro hc; (try simp at hc); (all_goals first | (exfalso; omega) | skip))))
          all_goals first | exact ⟨(pre2 ++ [q], rest2), by simp, by simp [hp], by simp⟩ | (exfalso; omega) | skip
      all_goals first | (simp [pf91, hW]; done) | (have := oldPin_is p2 ‹mayAdv e p = true›; simp [pf91, this, hW]; done) | (have := oldPin_is p2 (l := p) (by simpa using ‹¬mayAdv e p = false›); simp [pf91, this, hW]; done) | (exfalso; omega) | skip
    · have hge : 0 ≤ ripeF f 0 x := by omega
      obtain ⟨hWl, pr, dd, re, hxx, hri, hrb⟩ := ripe_some f x 0 0 (by omega) (by omega) (by omega) hge
      have hWlt : waitsF f 0 x < (x.length : Int) := by omega
      have hxl : x.length = pr.length + (re.length + 1) := by rw [hxx]; simp
      have hx : x[(ripeF f 0 x).toNat]? = some dd := by
        have : (ripeF f 0 x).toNat = pr.length := by omega
        rw [this, hxx]; simp
      obtain ⟨hlt1, hxe⟩ := List.getElem?_eq_some_iff.1 hx
      have hlt0 : ripeF f 0 x < (x.length : Int) := by omega
      have hA0 := x4 dd (List.mem_of_getElem? hx)
      simp only [ripeB, Bool.and_eq_true, decide_eq_true_eq] at hrb
      have hfw : IntKind.wrap .i64 (f - 2) = f - 2 := wrap_i64 (by omega) (by omega)
      rw [hfw] at hrb
      have hw2 : IntKind.wrap .i64 (dd.At + 2) = dd.At + 2 := wrap_i64 (by omega) (by omega)
      have hAt : dd.At + 2 ≤ f := by omega
      repeat' (first
        | with_reducible (first | refine wp_seq ?_ | refine wp_blk ?_ | refine wp_skip ?_ | refine wp_exit ?_ | refine wp_ret ?_ | refine seqQ_norm ?_ | refine seqQ_ret ?_ | refine seqQ_exit ?_ | refine blkQ_norm ?_ | refine blkQ_ret ?_ | refine blkQ_exit ?_ | refine loopQ_norm ?_ | refine loopQ_exit ?_ | refine loopQ_ret ?_ | refine endQ_ret ?_ | refine endQ_norm ?_ | refine endE_ret ?_ | refine endE_norm ?_ | refine endI_ret ?_ | refine endI_norm ?_)
        | (with_reducible refine wp_regK fun K hK => ?_
           simp[hok_code, hbg, g1, g2, g3, g4, g5, l1, l2, l3, l4, l5, l6, we, hr, hge, hlt0, hx, hxe, hw2, hAt, hWlt, hlt1]
           repeat' (with_reducible first | refine hK _ ?_ | (refine psel ?_ ?_ <;> (intro hc; (try rw [Decidable.not_not] at hc); first | (exfalso; omega) | (try simp [hc, hok_code, hbg, g1, g2, g3, g4, g5, l1, l2, l3, l4, l5, l6, we, hr, hge, hlt0, hx, hxe, hw2, hAt, hWlt, hlt1]))))
           all_goals (clear hK; clear K))
        | (with_reducible refine wp_condE ?_
           refine ⟨_, rfl, ?_, ?_⟩ <;> (intro hc; (try simp at hc); (all_goals first | (exfalso; omega) | skip))))
      · have hall := mayAdv_both (e := e) (l := p) (by assumption) (by assumption)
        refine wp_loopI (σ := List Int × List Int) (fun s => [(3, AV.pl 3 0 [], some (Rt.vir [C.own (D.sl 1 (p.map ei)), C.ro false (di e)])), (4, AV.v false (di e), none), (5, AV.pl 5 0 [], some (Rt.vir [C.own (D.sl 3 (x.map XDead.e)), C.ro false (di f)])), (6, AV.v false (di f), none), (7, AV.v false (di (ripeF f 0 x)), none), (14, AV.v false (di ((s.1.length : Nat) : Int)), none)]) (fun s => p = s.1 ++ s.2) (fun s => s.2.length) ([], p) (by simp) rfl ?_
        rintro ⟨pre2, rest2⟩ hp
        simp only at hp
        rcases rest2 with _ | ⟨q, rest2⟩
        · rw [List.append_nil] at hp
          subst hp
          unfold pl91_0
          repeat' (first
            | with_reducible (first | refine wp_seq ?_ | refine wp_blk ?_ | refine wp_skip ?_ | refine wp_exit ?_ | refine wp_ret ?_ | refine seqQ_norm ?_ | refine seqQ_ret ?_ | refine seqQ_exit ?_ | refine blkQ_norm ?_ | refine blkQ_ret ?_ | refine blkQ_exit ?_ | refine loopQ_norm ?_ | refine loopQ_exit ?_ | refine loopQ_ret ?_ | refine endQ_ret ?_ | refine endQ_norm ?_ | refine endE_ret ?_ | refine endE_norm ?_ | refine endI_ret ?_ | refine endI_norm ?_)
            | (with_reducible refine wp_regK fun K hK => ?_
               simp[hok_code, hbg, g1, g2, g3, g4, g5, l1, l2, l3, l4, l5, l6, we, hr, hge, hlt0, hx, hxe, hw2, hAt, hWlt, hlt1]
               repeat' (with_reducible first | refine hK _ ?_ | (refine psel ?_ ?_ <;> (intro hc; (try rw [Decidable.not_not] at hc); first | (exfalso; omega) | (try simp [hc, hok_code, hbg, g1, g2, g3, g4, g5, l1, l2, l3, l4, l5, l6, we, hr, hge, hlt0, hx, hxe, hw2, hAt, hWlt, hlt1]))))
               all_goals (clear hK; clear K))
            | (with_reducible refine wp_condE ?_
               refine ⟨_, rfl, ?_, ?_⟩ <;> (intro hc; (try simp at hc); (all_goals first | (exfalso; omega) | skip))))
          all_goals first | (simp [pf91, hw2]; done) | (have := oldPin_is p2 ‹mayAdv e p = true›; simp [pf91, this, hw2]; done) | (have := oldPin_is p2 (l := p) (by simpa using ‹¬mayAdv e p = false›); simp [pf91, this, hw2]; done) | (exfalso; omega) | skip
        · have hq : q = -1 := hall q (by rw [hp]; simp)
          have hpl : p.length = pre2.length + (rest2.length + 1) := by rw [hp]; simp
          have hw : IntKind.wrap .i64 ((pre2.length : Int) + 1) = (pre2.length : Int) + 1 := wrap_i64 (by omega) (by omega)
          have hpg : (p.map ei)[pre2.length]? = some [di (-1)] := by rw [hp, hq]; simp
          have hpg2 : p[pre2.length]? = some (-1) := by rw [hp, hq]; simp
          have hlt : (pre2.length : Int) < (p.length : Int) := by omega
          have hlt2 : pre2.length < p.length := by omega
          obtain ⟨_, hpe⟩ := List.getElem?_eq_some_iff.1 hpg2
          unfold pl91_0
          repeat' (first
            | with_reducible (first | refine wp_seq ?_ | refine wp_blk ?_ | refine wp_skip ?_ | refine wp_exit ?_ | refine wp_ret ?_ | refine seqQ_norm ?_ | refine seqQ_ret ?_ | refine seqQ_exit ?_ | refine blkQ_norm ?_ | refine blkQ_ret ?_ | refine blkQ_exit ?_ | refine loopQ_norm ?_ | refine loopQ_exit ?_ | refine loopQ_ret ?_ | refine endQ_ret ?_ | refine endQ_norm ?_ | refine endE_ret ?_ | refine endE_norm ?_ | refine endI_ret ?_ | refine endI_norm ?_)
            | (with_reducible refine wp_regK fun K hK => ?_
               simp[hw, hpg, hpg2, hpe, hlt, hlt2]
               repeat' (with_reducible first | refine hK _ ?_ | (refine psel ?_ ?_ <;> (intro hc; (try rw [Decidable.not_not] at hc); first | (exfalso; omega) | (try simp [hc, hw, hpg, hpg2, hpe, hlt, hlt2]))))
               all_goals (clear hK; clear K))
            | (with_reducible refine wp_condE ?_
               refine ⟨_, rfl, ?_, ?_⟩ <;> (intro hc; (try simp at hc); (all_goals first | (exfalso; omega) | skip))))
          all_goals first | exact ⟨(pre2 ++ [q], rest2), by simp, by simp [hp], by simp⟩ | (exfalso; omega) | skip
      all_goals first | (simp [pf91, hw2]; done) | (have := oldPin_is p2 ‹mayAdv e p = true›; simp [pf91, this, hw2]; done) | (have := oldPin_is p2 (l := p) (by simpa using ‹¬mayAdv e p = false›); simp [pf91, this, hw2]; done) | (exfalso; omega) | skip
  · have hbg : 1048576 < (code.length : Int) := by omega
    repeat' (first
      | with_reducible (first | refine wp_seq ?_ | refine wp_blk ?_ | refine wp_skip ?_ | refine wp_exit ?_ | refine wp_ret ?_ | refine seqQ_norm ?_ | refine seqQ_ret ?_ | refine seqQ_exit ?_ | refine blkQ_norm ?_ | refine blkQ_ret ?_ | refine blkQ_exit ?_ | refine loopQ_norm ?_ | refine loopQ_exit ?_ | refine loopQ_ret ?_ | refine endQ_ret ?_ | refine endQ_norm ?_ | refine endE_ret ?_ | refine endE_norm ?_ | refine endI_ret ?_ | refine endI_norm ?_)
      | (with_reducible refine wp_regK fun K hK => ?_
         simp[hok_code, hbg]
         repeat' (with_reducible first | refine hK _ ?_ | (refine psel ?_ ?_ <;> (intro hc; (try rw [Decidable.not_not] at hc); first | (exfalso; omega) | (try simp [hc, hok_code, hbg]))))
         all_goals (clear hK; clear K))
      | (with_reducible refine wp_condE ?_
         refine ⟨_, rfl, ?_, ?_⟩ <;> (intro hc; (try simp at hc); (all_goals first | (exfalso; omega) | skip))))
    all_goals first | (simp [pf91]; done) | (exfalso; omega)

end Go.Proofs.Ytkgibccknlbiaaa.OM
