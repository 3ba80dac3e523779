/- What the functions answer. -/
import Derived.Test.YtkgibccknlbiaaaOMTypes
import Derived.Test.YtkgibccknlbiaaaOMTac2
import Derived.Test.YtkgibccknlbiaaaXFDirsPc0
set_option linter.all false
namespace Go.Proofs.Ytkgibccknlbiaaa.OM
set_option maxHeartbeats 4000000
set_option maxRecDepth 100000

def tab : List (Nat × PF) := [(4, pf4), (15, pf15), (16, pf16), (22, pf22), (41, pf41), (47, pf47), (71, pf71), (74, pf74), (77, pf77), (82, pf82), (87, pf87), (90, pf90), (141, pf141), (202, pf202), (206, pf206), (260, pf260), (271, pf271), (272, pf272), (277, pf277), (285, pf285), (296, pf296), (301, pf301), (322, pf322), (367, pf367), (368, pf368), (369, pf369), (370, pf370), (375, pf375), (376, pf376), (377, pf377), (378, pf378), (379, pf379), (382, pf382), (403, pf403)]
def TT (k : Nat) : Option PF := tab.lookup k

@[simp] theorem t87 (x a b : Int) : Gw TT 87 [vi x, vi a, vi b] = some (vb (decide (a ≤ x) && decide (x ≤ b)), []) := by
  refine Gw_of (F := pf87) rfl rfl ?_
  show Wp _ pb87 _ _
  unfold pb87
  repeat' (first
    | with_reducible (first | refine wp_seq ?_ | refine wp_blk ?_ | refine wp_skip ?_ | refine wp_exit ?_ | refine wp_ret ?_ | refine seqQ_norm ?_ | refine seqQ_ret ?_ | refine seqQ_exit ?_ | refine blkQ_norm ?_ | refine blkQ_ret ?_ | refine blkQ_exit ?_ | refine loopQ_norm ?_ | refine loopQ_exit ?_ | refine loopQ_ret ?_ | refine endQ_ret ?_ | refine endQ_norm ?_ | refine endE_ret ?_ | refine endE_norm ?_ | refine endI_ret ?_ | refine endI_norm ?_)
    | (with_reducible refine wp_regK fun K hK => ?_
       simp
       repeat' (with_reducible first | refine hK _ ?_ | (refine psel ?_ ?_ <;> (intro hc; (try rw [Decidable.not_not] at hc); first | (exfalso; omega) | (try simp [hc]))))
       all_goals (clear hK; clear K))
    | (with_reducible refine wp_condE ?_
       refine ⟨_, rfl, ?_, ?_⟩ <;> (intro hc; (try simp at hc); (all_goals first | (exfalso; omega) | skip))))
  all_goals first | (simp_all [pf87]; done) | (simp_all [pf87]; omega)

@[simp] theorem t377 (x a b : Int) : Gw TT 377 [vi x, vi a, vi b] = some (vb (decide (a ≤ x) && decide (x ≤ b)), []) := by
  refine Gw_of (F := pf377) rfl rfl ?_
  show Wp _ pb377 _ _
  unfold pb377
  repeat' (first
    | with_reducible (first | refine wp_seq ?_ | refine wp_blk ?_ | refine wp_skip ?_ | refine wp_exit ?_ | refine wp_ret ?_ | refine seqQ_norm ?_ | refine seqQ_ret ?_ | refine seqQ_exit ?_ | refine blkQ_norm ?_ | refine blkQ_ret ?_ | refine blkQ_exit ?_ | refine loopQ_norm ?_ | refine loopQ_exit ?_ | refine loopQ_ret ?_ | refine endQ_ret ?_ | refine endQ_norm ?_ | refine endE_ret ?_ | refine endE_norm ?_ | refine endI_ret ?_ | refine endI_norm ?_)
    | (with_reducible refine wp_regK fun K hK => ?_
       simp
       repeat' (with_reducible first | refine hK _ ?_ | (refine psel ?_ ?_ <;> (intro hc; (try rw [Decidable.not_not] at hc); first | (exfalso; omega) | (try simp [hc]))))
       all_goals (clear hK; clear K))
    | (with_reducible refine wp_condE ?_
       refine ⟨_, rfl, ?_, ?_⟩ <;> (intro hc; (try simp at hc); (all_goals first | (exfalso; omega) | skip))))
  all_goals first | (simp_all [pf377]; done) | (simp_all [pf377]; omega)

def endOfF (l : List XRef) : Int := match l.getLast? with
  | none => 0
  | some r => IntKind.wrap .i64 (r.First + r.Many)

@[simp] theorem t16 (k0 : Bool) (x_Ver : Int) (x_L : List XRef) (h : x_L.length ≤ 1048576) : Gw TT 16 [.st [.ro false (di x_Ver), .ro k0 (.sl 5 (x_L.map XRef.e))]] = some (vi (endOfF x_L), []) := by
  refine Gw_of (F := pf16) rfl rfl ?_
  show Wp _ pb16 _ _
  unfold pb16
  rcases List.eq_nil_or_concat x_L with rfl | ⟨pre, r, rfl⟩
  · repeat' (first
      | with_reducible (first | refine wp_seq ?_ | refine wp_blk ?_ | refine wp_skip ?_ | refine wp_exit ?_ | refine wp_ret ?_ | refine seqQ_norm ?_ | refine seqQ_ret ?_ | refine seqQ_exit ?_ | refine blkQ_norm ?_ | refine blkQ_ret ?_ | refine blkQ_exit ?_ | refine loopQ_norm ?_ | refine loopQ_exit ?_ | refine loopQ_ret ?_ | refine endQ_ret ?_ | refine endQ_norm ?_ | refine endE_ret ?_ | refine endE_norm ?_ | refine endI_ret ?_ | refine endI_norm ?_)
      | (with_reducible refine wp_regK fun K hK => ?_
         simp
         repeat' (with_reducible first | refine hK _ ?_ | (refine psel ?_ ?_ <;> (intro hc; (try rw [Decidable.not_not] at hc); first | (exfalso; omega) | (try simp [hc]))))
         all_goals (clear hK; clear K))
      | (with_reducible refine wp_condE ?_
         refine ⟨_, rfl, ?_, ?_⟩ <;> (intro hc; (try simp at hc); (all_goals first | (exfalso; omega) | skip))))
    all_goals simp [pf16, endOfF]
  · simp only [List.concat_eq_append, List.length_append, List.length_cons, List.length_nil] at h
    have hw : IntKind.wrap .i64 (pre.length : Int) = (pre.length : Int) := wrap_i64 (by omega) (by omega)
    repeat' (first
      | with_reducible (first | refine wp_seq ?_ | refine wp_blk ?_ | refine wp_skip ?_ | refine wp_exit ?_ | refine wp_ret ?_ | refine seqQ_norm ?_ | refine seqQ_ret ?_ | refine seqQ_exit ?_ | refine blkQ_norm ?_ | refine blkQ_ret ?_ | refine blkQ_exit ?_ | refine loopQ_norm ?_ | refine loopQ_exit ?_ | refine loopQ_ret ?_ | refine endQ_ret ?_ | refine endQ_norm ?_ | refine endE_ret ?_ | refine endE_norm ?_ | refine endI_ret ?_ | refine endI_norm ?_)
      | (with_reducible refine wp_regK fun K hK => ?_
         simp[hw]
         repeat' (with_reducible first | refine hK _ ?_ | (refine psel ?_ ?_ <;> (intro hc; (try rw [Decidable.not_not] at hc); first | (exfalso; omega) | (try simp [hc, hw]))))
         all_goals (clear hK; clear K))
      | (with_reducible refine wp_condE ?_
         refine ⟨_, rfl, ?_, ?_⟩ <;> (intro hc; (try simp at hc); (all_goals first | (exfalso; omega) | skip))))
    all_goals simp [pf16, endOfF]

@[simp] theorem t296 (k0 : Bool) (x_Ver : Int) (x_L : List XRef) (h : x_L.length ≤ 1048576) : Gw TT 296 [.st [.ro false (di x_Ver), .ro k0 (.sl 5 (x_L.map XRef.e))]] = some (vi (endOfF x_L), []) := by
  refine Gw_of (F := pf296) rfl rfl ?_
  show Wp _ pb296 _ _
  unfold pb296
  rcases List.eq_nil_or_concat x_L with rfl | ⟨pre, r, rfl⟩
  · repeat' (first
      | with_reducible (first | refine wp_seq ?_ | refine wp_blk ?_ | refine wp_skip ?_ | refine wp_exit ?_ | refine wp_ret ?_ | refine seqQ_norm ?_ | refine seqQ_ret ?_ | refine seqQ_exit ?_ | refine blkQ_norm ?_ | refine blkQ_ret ?_ | refine blkQ_exit ?_ | refine loopQ_norm ?_ | refine loopQ_exit ?_ | refine loopQ_ret ?_ | refine endQ_ret ?_ | refine endQ_norm ?_ | refine endE_ret ?_ | refine endE_norm ?_ | refine endI_ret ?_ | refine endI_norm ?_)
      | (with_reducible refine wp_regK fun K hK => ?_
         simp
         repeat' (with_reducible first | refine hK _ ?_ | (refine psel ?_ ?_ <;> (intro hc; (try rw [Decidable.not_not] at hc); first | (exfalso; omega) | (try simp [hc]))))
         all_goals (clear hK; clear K))
      | (with_reducible refine wp_condE ?_
         refine ⟨_, rfl, ?_, ?_⟩ <;> (intro hc; (try simp at hc); (all_goals first | (exfalso; omega) | skip))))
    all_goals simp [pf296, endOfF]
  · simp only [List.concat_eq_append, List.length_append, List.length_cons, List.length_nil] at h
    have hw : IntKind.wrap .i64 (pre.length : Int) = (pre.length : Int) := wrap_i64 (by omega) (by omega)
    repeat' (first
      | with_reducible (first | refine wp_seq ?_ | refine wp_blk ?_ | refine wp_skip ?_ | refine wp_exit ?_ | refine wp_ret ?_ | refine seqQ_norm ?_ | refine seqQ_ret ?_ | refine seqQ_exit ?_ | refine blkQ_norm ?_ | refine blkQ_ret ?_ | refine blkQ_exit ?_ | refine loopQ_norm ?_ | refine loopQ_exit ?_ | refine loopQ_ret ?_ | refine endQ_ret ?_ | refine endQ_norm ?_ | refine endE_ret ?_ | refine endE_norm ?_ | refine endI_ret ?_ | refine endI_norm ?_)
      | (with_reducible refine wp_regK fun K hK => ?_
         simp[hw]
         repeat' (with_reducible first | refine hK _ ?_ | (refine psel ?_ ?_ <;> (intro hc; (try rw [Decidable.not_not] at hc); first | (exfalso; omega) | (try simp [hc, hw]))))
         all_goals (clear hK; clear K))
      | (with_reducible refine wp_condE ?_
         refine ⟨_, rfl, ?_, ?_⟩ <;> (intro hc; (try simp at hc); (all_goals first | (exfalso; omega) | skip))))
    all_goals simp [pf296, endOfF]

def hasBufF (b : Int) : List XRef → Bool
  | [] => false
  | d :: l => if d.Buf = b then true else hasBufF b l
def inRef (f m id : Int) : Bool := decide (0 ≤ f) && decide (f ≤ id) && decide (IntKind.wrap .i64 (id - f) < m)
def refAtF (id : Int) : Int → List XRef → Int
  | _, [] => -1
  | i, d :: l => if inRef d.First d.Many id then i else refAtF id (i + 1) l

@[simp] theorem t22 (k0 : Bool) (x_Ver : Int) (x_L : List XRef) (b : Int) (h : x_L.length ≤ 1048576) : Gw TT 22 [.st [.ro false (di x_Ver), .ro k0 (.sl 5 (x_L.map XRef.e))], vi b] = some (vb (hasBufF b x_L), []) := by
  refine Gw_of (F := pf22) rfl rfl ?_
  show Wp _ pb22 _ _
  unfold pb22
  repeat' (first
    | with_reducible (first | refine wp_seq ?_ | refine wp_blk ?_ | refine wp_skip ?_ | refine wp_exit ?_ | refine wp_ret ?_ | refine seqQ_norm ?_ | refine seqQ_ret ?_ | refine seqQ_exit ?_ | refine blkQ_norm ?_ | refine blkQ_ret ?_ | refine blkQ_exit ?_ | refine loopQ_norm ?_ | refine loopQ_exit ?_ | refine loopQ_ret ?_ | refine endQ_ret ?_ | refine endQ_norm ?_ | refine endE_ret ?_ | refine endE_norm ?_ | refine endI_ret ?_ | refine endI_norm ?_)
    | (with_reducible refine wp_regK fun K hK => ?_
       simp
       repeat' (with_reducible first | refine hK _ ?_ | (refine psel ?_ ?_ <;> (intro hc; (try rw [Decidable.not_not] at hc); first | (exfalso; omega) | (try simp [hc]))))
       all_goals (clear hK; clear K))
    | (with_reducible refine wp_condE ?_
       refine ⟨_, rfl, ?_, ?_⟩ <;> (intro hc; (try simp at hc); (all_goals first | (exfalso; omega) | skip))))
  refine wp_loopI (σ := List (XRef) × List (XRef)) (fun s => [(1, AV.v false (di b), none), (2, AV.bx 2 0, some (Rt.bx [.ro false (di x_Ver), .ro k0 (.sl 5 (x_L.map XRef.e))])), (8, AV.v k0 (D.sl 5 (x_L.map XRef.e)), none), (9, AV.v false (di (x_L.length : Nat)), none), (10, AV.v false (di ((s.1.length : Nat) : Int)), none)]) (fun s => x_L = s.1 ++ s.2 ∧ hasBufF b s.2 = hasBufF b x_L) (fun s => s.2.length) ([], x_L) (by simp) ⟨rfl, rfl⟩ ?_
  rintro ⟨pre, rest⟩ ⟨h1, h2⟩
  simp only at h1 h2
  subst h1
  simp only [List.length_append, List.length_cons] at h
  rcases rest with _ | ⟨d, rest⟩
  · unfold pl22_0
    simp only [hasBufF] at h2
    repeat' (first
      | with_reducible (first | refine wp_seq ?_ | refine wp_blk ?_ | refine wp_skip ?_ | refine wp_exit ?_ | refine wp_ret ?_ | refine seqQ_norm ?_ | refine seqQ_ret ?_ | refine seqQ_exit ?_ | refine blkQ_norm ?_ | refine blkQ_ret ?_ | refine blkQ_exit ?_ | refine loopQ_norm ?_ | refine loopQ_exit ?_ | refine loopQ_ret ?_ | refine endQ_ret ?_ | refine endQ_norm ?_ | refine endE_ret ?_ | refine endE_norm ?_ | refine endI_ret ?_ | refine endI_norm ?_)
      | (with_reducible refine wp_regK fun K hK => ?_
         simp
         repeat' (with_reducible first | refine hK _ ?_ | (refine psel ?_ ?_ <;> (intro hc; (try rw [Decidable.not_not] at hc); first | (exfalso; omega) | (try simp [hc]))))
         all_goals (clear hK; clear K))
      | (with_reducible refine wp_condE ?_
         refine ⟨_, rfl, ?_, ?_⟩ <;> (intro hc; (try simp at hc); (all_goals first | (exfalso; omega) | skip))))
    all_goals first | (simp_all [pf22]; done) | (simp_all [pf22]; omega)
  · unfold pl22_0
    simp only [List.length_cons] at h
    simp only [hasBufF] at h2
    have hw : IntKind.wrap .i64 ((pre.length : Int) + 1) = (pre.length : Int) + 1 := wrap_i64 (by omega) (by omega)
    repeat' (first
      | with_reducible (first | refine wp_seq ?_ | refine wp_blk ?_ | refine wp_skip ?_ | refine wp_exit ?_ | refine wp_ret ?_ | refine seqQ_norm ?_ | refine seqQ_ret ?_ | refine seqQ_exit ?_ | refine blkQ_norm ?_ | refine blkQ_ret ?_ | refine blkQ_exit ?_ | refine loopQ_norm ?_ | refine loopQ_exit ?_ | refine loopQ_ret ?_ | refine endQ_ret ?_ | refine endQ_norm ?_ | refine endE_ret ?_ | refine endE_norm ?_ | refine endI_ret ?_ | refine endI_norm ?_)
      | (with_reducible refine wp_regK fun K hK => ?_
         simp[hw]
         repeat' (with_reducible first | refine hK _ ?_ | (refine psel ?_ ?_ <;> (intro hc; (try rw [Decidable.not_not] at hc); first | (exfalso; omega) | (try simp [hc, hw]))))
         all_goals (clear hK; clear K))
      | (with_reducible refine wp_condE ?_
         refine ⟨_, rfl, ?_, ?_⟩ <;> (intro hc; (try simp at hc); (all_goals first | (exfalso; omega) | skip))))
    all_goals first | (refine ⟨(pre ++ [d], rest), ?_, ⟨?_, ?_⟩, ?_⟩; (focus (first | (simp; done) | (simp_all; done))); (focus (simp; done)); (focus (refine Eq.trans ?_ h2; clear h2; first | (simp [*]; done) | (simp_all; done) | (split <;> simp_all <;> omega) | (split <;> first | (exfalso; omega) | (simp_all; done)))); (focus (simp; done))) | (simp_all [pf22]; done) | (simp_all [pf22]; omega) | (split at h2 <;> first | (exfalso; omega) | (simp_all [pf22]; done))

@[simp] theorem t301 (k0 : Bool) (x_Ver : Int) (x_L : List XRef) (b : Int) (h : x_L.length ≤ 1048576) : Gw TT 301 [.st [.ro false (di x_Ver), .ro k0 (.sl 5 (x_L.map XRef.e))], vi b] = some (vb (hasBufF b x_L), []) := by
  refine Gw_of (F := pf301) rfl rfl ?_
  show Wp _ pb301 _ _
  unfold pb301
  repeat' (first
    | with_reducible (first | refine wp_seq ?_ | refine wp_blk ?_ | refine wp_skip ?_ | refine wp_exit ?_ | refine wp_ret ?_ | refine seqQ_norm ?_ | refine seqQ_ret ?_ | refine seqQ_exit ?_ | refine blkQ_norm ?_ | refine blkQ_ret ?_ | refine blkQ_exit ?_ | refine loopQ_norm ?_ | refine loopQ_exit ?_ | refine loopQ_ret ?_ | refine endQ_ret ?_ | refine endQ_norm ?_ | refine endE_ret ?_ | refine endE_norm ?_ | refine endI_ret ?_ | refine endI_norm ?_)
    | (with_reducible refine wp_regK fun K hK => ?_
       simp
       repeat' (with_reducible first | refine hK _ ?_ | (refine psel ?_ ?_ <;> (intro hc; (try rw [Decidable.not_not] at hc); first | (exfalso; omega) | (try simp [hc]))))
       all_goals (clear hK; clear K))
    | (with_reducible refine wp_condE ?_
       refine ⟨_, rfl, ?_, ?_⟩ <;> (intro hc; (try simp at hc); (all_goals first | (exfalso; omega) | skip))))
  refine wp_loopI (σ := List (XRef) × List (XRef)) (fun s => [(1, AV.v false (di b), none), (2, AV.bx 2 0, some (Rt.bx [.ro false (di x_Ver), .ro k0 (.sl 5 (x_L.map XRef.e))])), (5, AV.v false (di ((s.1.length : Nat) : Int)), none)]) (fun s => x_L = s.1 ++ s.2 ∧ hasBufF b s.2 = hasBufF b x_L) (fun s => s.2.length) ([], x_L) (by simp) ⟨rfl, rfl⟩ ?_
  rintro ⟨pre, rest⟩ ⟨h1, h2⟩
  simp only at h1 h2
  subst h1
  simp only [List.length_append, List.length_cons] at h
  rcases rest with _ | ⟨d, rest⟩
  · unfold pl301_0
    simp only [hasBufF] at h2
    repeat' (first
      | with_reducible (first | refine wp_seq ?_ | refine wp_blk ?_ | refine wp_skip ?_ | refine wp_exit ?_ | refine wp_ret ?_ | refine seqQ_norm ?_ | refine seqQ_ret ?_ | refine seqQ_exit ?_ | refine blkQ_norm ?_ | refine blkQ_ret ?_ | refine blkQ_exit ?_ | refine loopQ_norm ?_ | refine loopQ_exit ?_ | refine loopQ_ret ?_ | refine endQ_ret ?_ | refine endQ_norm ?_ | refine endE_ret ?_ | refine endE_norm ?_ | refine endI_ret ?_ | refine endI_norm ?_)
      | (with_reducible refine wp_regK fun K hK => ?_
         simp
         repeat' (with_reducible first | refine hK _ ?_ | (refine psel ?_ ?_ <;> (intro hc; (try rw [Decidable.not_not] at hc); first | (exfalso; omega) | (try simp [hc]))))
         all_goals (clear hK; clear K))
      | (with_reducible refine wp_condE ?_
         refine ⟨_, rfl, ?_, ?_⟩ <;> (intro hc; (try simp at hc); (all_goals first | (exfalso; omega) | skip))))
    all_goals first | (simp_all [pf301]; done) | (simp_all [pf301]; omega)
  · unfold pl301_0
    simp only [List.length_cons] at h
    simp only [hasBufF] at h2
    have hw : IntKind.wrap .i64 ((pre.length : Int) + 1) = (pre.length : Int) + 1 := wrap_i64 (by omega) (by omega)
    repeat' (first
      | with_reducible (first | refine wp_seq ?_ | refine wp_blk ?_ | refine wp_skip ?_ | refine wp_exit ?_ | refine wp_ret ?_ | refine seqQ_norm ?_ | refine seqQ_ret ?_ | refine seqQ_exit ?_ | refine blkQ_norm ?_ | refine blkQ_ret ?_ | refine blkQ_exit ?_ | refine loopQ_norm ?_ | refine loopQ_exit ?_ | refine loopQ_ret ?_ | refine endQ_ret ?_ | refine endQ_norm ?_ | refine endE_ret ?_ | refine endE_norm ?_ | refine endI_ret ?_ | refine endI_norm ?_)
      | (with_reducible refine wp_regK fun K hK => ?_
         simp[hw]
         repeat' (with_reducible first | refine hK _ ?_ | (refine psel ?_ ?_ <;> (intro hc; (try rw [Decidable.not_not] at hc); first | (exfalso; omega) | (try simp [hc, hw]))))
         all_goals (clear hK; clear K))
      | (with_reducible refine wp_condE ?_
         refine ⟨_, rfl, ?_, ?_⟩ <;> (intro hc; (try simp at hc); (all_goals first | (exfalso; omega) | skip))))
    all_goals first | (refine ⟨(pre ++ [d], rest), ?_, ⟨?_, ?_⟩, ?_⟩; (focus (first | (simp; done) | (simp_all; done))); (focus (simp; done)); (focus (refine Eq.trans ?_ h2; clear h2; first | (simp [*]; done) | (simp_all; done) | (split <;> simp_all <;> omega) | (split <;> first | (exfalso; omega) | (simp_all; done)))); (focus (simp; done))) | (simp_all [pf301]; done) | (simp_all [pf301]; omega) | (split at h2 <;> first | (exfalso; omega) | (simp_all [pf301]; done))

@[simp] theorem t77 (x_Buf x_Gen x_Kind x_First x_Many id : Int) : Gw TT 77 [.st [.ro false (di x_Buf), .ro false (di x_Gen), .ro false (di x_Kind), .ro false (di x_First), .ro false (di x_Many)], vi id] = some (vb (inRef x_First x_Many id), []) := by
  refine Gw_of (F := pf77) rfl rfl ?_
  show Wp _ pb77 _ _
  unfold pb77
  repeat' (first
    | with_reducible (first | refine wp_seq ?_ | refine wp_blk ?_ | refine wp_skip ?_ | refine wp_exit ?_ | refine wp_ret ?_ | refine seqQ_norm ?_ | refine seqQ_ret ?_ | refine seqQ_exit ?_ | refine blkQ_norm ?_ | refine blkQ_ret ?_ | refine blkQ_exit ?_ | refine loopQ_norm ?_ | refine loopQ_exit ?_ | refine loopQ_ret ?_ | refine endQ_ret ?_ | refine endQ_norm ?_ | refine endE_ret ?_ | refine endE_norm ?_ | refine endI_ret ?_ | refine endI_norm ?_)
    | (with_reducible refine wp_regK fun K hK => ?_
       simp
       repeat' (with_reducible first | refine hK _ ?_ | (refine psel ?_ ?_ <;> (intro hc; (try rw [Decidable.not_not] at hc); first | (exfalso; omega) | (try simp [hc]))))
       all_goals (clear hK; clear K))
    | (with_reducible refine wp_condE ?_
       refine ⟨_, rfl, ?_, ?_⟩ <;> (intro hc; (try simp at hc); (all_goals first | (exfalso; omega) | skip))))
  all_goals first | (simp_all [pf77, inRef]; done) | (simp_all [pf77, inRef]; omega)

@[simp] theorem t41 (k0 : Bool) (x_Ver : Int) (x_L : List XRef) (b : Int) (h : x_L.length ≤ 1048576) : Gw TT 41 [.st [.ro false (di x_Ver), .ro k0 (.sl 5 (x_L.map XRef.e))], vi b] = some (vi (refAtF b 0 x_L), []) := by
  refine Gw_of (F := pf41) rfl rfl ?_
  show Wp _ pb41 _ _
  unfold pb41
  repeat' (first
    | with_reducible (first | refine wp_seq ?_ | refine wp_blk ?_ | refine wp_skip ?_ | refine wp_exit ?_ | refine wp_ret ?_ | refine seqQ_norm ?_ | refine seqQ_ret ?_ | refine seqQ_exit ?_ | refine blkQ_norm ?_ | refine blkQ_ret ?_ | refine blkQ_exit ?_ | refine loopQ_norm ?_ | refine loopQ_exit ?_ | refine loopQ_ret ?_ | refine endQ_ret ?_ | refine endQ_norm ?_ | refine endE_ret ?_ | refine endE_norm ?_ | refine endI_ret ?_ | refine endI_norm ?_)
    | (with_reducible refine wp_regK fun K hK => ?_
       simp
       repeat' (with_reducible first | refine hK _ ?_ | (refine psel ?_ ?_ <;> (intro hc; (try rw [Decidable.not_not] at hc); first | (exfalso; omega) | (try simp [hc]))))
       all_goals (clear hK; clear K))
    | (with_reducible refine wp_condE ?_
       refine ⟨_, rfl, ?_, ?_⟩ <;> (intro hc; (try simp at hc); (all_goals first | (exfalso; omega) | skip))))
  refine wp_loopI (σ := List (XRef) × List (XRef)) (fun s => [(1, AV.v false (di b), none), (2, AV.bx 2 0, some (Rt.bx [.ro false (di x_Ver), .ro k0 (.sl 5 (x_L.map XRef.e))])), (8, AV.v k0 (D.sl 5 (x_L.map XRef.e)), none), (9, AV.v false (di (x_L.length : Nat)), none), (10, AV.v false (di ((s.1.length : Nat) : Int)), none)]) (fun s => x_L = s.1 ++ s.2 ∧ refAtF b ((s.1.length : Nat) : Int) s.2 = refAtF b (0 : Int) x_L) (fun s => s.2.length) ([], x_L) (by simp) ⟨rfl, rfl⟩ ?_
  rintro ⟨pre, rest⟩ ⟨h1, h2⟩
  simp only at h1 h2
  subst h1
  simp only [List.length_append, List.length_cons] at h
  rcases rest with _ | ⟨d, rest⟩
  · unfold pl41_0
    simp only [refAtF] at h2
    repeat' (first
      | with_reducible (first | refine wp_seq ?_ | refine wp_blk ?_ | refine wp_skip ?_ | refine wp_exit ?_ | refine wp_ret ?_ | refine seqQ_norm ?_ | refine seqQ_ret ?_ | refine seqQ_exit ?_ | refine blkQ_norm ?_ | refine blkQ_ret ?_ | refine blkQ_exit ?_ | refine loopQ_norm ?_ | refine loopQ_exit ?_ | refine loopQ_ret ?_ | refine endQ_ret ?_ | refine endQ_norm ?_ | refine endE_ret ?_ | refine endE_norm ?_ | refine endI_ret ?_ | refine endI_norm ?_)
      | (with_reducible refine wp_regK fun K hK => ?_
         simp
         repeat' (with_reducible first | refine hK _ ?_ | (refine psel ?_ ?_ <;> (intro hc; (try rw [Decidable.not_not] at hc); first | (exfalso; omega) | (try simp [hc]))))
         all_goals (clear hK; clear K))
      | (with_reducible refine wp_condE ?_
         refine ⟨_, rfl, ?_, ?_⟩ <;> (intro hc; (try simp at hc); (all_goals first | (exfalso; omega) | skip))))
    all_goals first | (simp_all [pf41]; done) | (simp_all [pf41]; omega)
  · unfold pl41_0
    simp only [List.length_cons] at h
    simp only [refAtF] at h2
    have hw : IntKind.wrap .i64 ((pre.length : Int) + 1) = (pre.length : Int) + 1 := wrap_i64 (by omega) (by omega)
    repeat' (first
      | with_reducible (first | refine wp_seq ?_ | refine wp_blk ?_ | refine wp_skip ?_ | refine wp_exit ?_ | refine wp_ret ?_ | refine seqQ_norm ?_ | refine seqQ_ret ?_ | refine seqQ_exit ?_ | refine blkQ_norm ?_ | refine blkQ_ret ?_ | refine blkQ_exit ?_ | refine loopQ_norm ?_ | refine loopQ_exit ?_ | refine loopQ_ret ?_ | refine endQ_ret ?_ | refine endQ_norm ?_ | refine endE_ret ?_ | refine endE_norm ?_ | refine endI_ret ?_ | refine endI_norm ?_)
      | (with_reducible refine wp_regK fun K hK => ?_
         simp[hw]
         repeat' (with_reducible first | refine hK _ ?_ | (refine psel ?_ ?_ <;> (intro hc; (try rw [Decidable.not_not] at hc); first | (exfalso; omega) | (try simp [hc, hw]))))
         all_goals (clear hK; clear K))
      | (with_reducible refine wp_condE ?_
         refine ⟨_, rfl, ?_, ?_⟩ <;> (intro hc; (try simp at hc); (all_goals first | (exfalso; omega) | skip))))
    all_goals first | (refine ⟨(pre ++ [d], rest), ?_, ⟨?_, ?_⟩, ?_⟩; (focus (first | (simp; done) | (simp_all; done))); (focus (simp; done)); (focus (refine Eq.trans ?_ h2; clear h2; first | (simp [*]; done) | (simp_all; done) | (split <;> simp_all <;> omega) | (split <;> first | (exfalso; omega) | (simp_all; done)))); (focus (simp; done))) | (simp_all [pf41]; done) | (simp_all [pf41]; omega) | (split at h2 <;> first | (exfalso; omega) | (simp_all [pf41]; done))

@[simp] theorem t322 (k0 : Bool) (x_Ver : Int) (x_L : List XRef) (b : Int) (h : x_L.length ≤ 1048576) : Gw TT 322 [.st [.ro false (di x_Ver), .ro k0 (.sl 5 (x_L.map XRef.e))], vi b] = some (vi (refAtF b 0 x_L), []) := by
  refine Gw_of (F := pf322) rfl rfl ?_
  show Wp _ pb322 _ _
  unfold pb322
  repeat' (first
    | with_reducible (first | refine wp_seq ?_ | refine wp_blk ?_ | refine wp_skip ?_ | refine wp_exit ?_ | refine wp_ret ?_ | refine seqQ_norm ?_ | refine seqQ_ret ?_ | refine seqQ_exit ?_ | refine blkQ_norm ?_ | refine blkQ_ret ?_ | refine blkQ_exit ?_ | refine loopQ_norm ?_ | refine loopQ_exit ?_ | refine loopQ_ret ?_ | refine endQ_ret ?_ | refine endQ_norm ?_ | refine endE_ret ?_ | refine endE_norm ?_ | refine endI_ret ?_ | refine endI_norm ?_)
    | (with_reducible refine wp_regK fun K hK => ?_
       simp
       repeat' (with_reducible first | refine hK _ ?_ | (refine psel ?_ ?_ <;> (intro hc; (try rw [Decidable.not_not] at hc); first | (exfalso; omega) | (try simp [hc]))))
       all_goals (clear hK; clear K))
    | (with_reducible refine wp_condE ?_
       refine ⟨_, rfl, ?_, ?_⟩ <;> (intro hc; (try simp at hc); (all_goals first | (exfalso; omega) | skip))))
  refine wp_loopI (σ := List (XRef) × List (XRef)) (fun s => [(1, AV.v false (di b), none), (2, AV.bx 2 0, some (Rt.bx [.ro false (di x_Ver), .ro k0 (.sl 5 (x_L.map XRef.e))])), (5, AV.v false (di ((s.1.length : Nat) : Int)), none)]) (fun s => x_L = s.1 ++ s.2 ∧ refAtF b ((s.1.length : Nat) : Int) s.2 = refAtF b (0 : Int) x_L) (fun s => s.2.length) ([], x_L) (by simp) ⟨rfl, rfl⟩ ?_
  rintro ⟨pre, rest⟩ ⟨h1, h2⟩
  simp only at h1 h2
  subst h1
  simp only [List.length_append, List.length_cons] at h
  rcases rest with _ | ⟨d, rest⟩
  · unfold pl322_0
    simp only [refAtF, inRef, Bool.and_eq_true, decide_eq_true_eq] at h2
    repeat' (first
      | with_reducible (first | refine wp_seq ?_ | refine wp_blk ?_ | refine wp_skip ?_ | refine wp_exit ?_ | refine wp_ret ?_ | refine seqQ_norm ?_ | refine seqQ_ret ?_ | refine seqQ_exit ?_ | refine blkQ_norm ?_ | refine blkQ_ret ?_ | refine blkQ_exit ?_ | refine loopQ_norm ?_ | refine loopQ_exit ?_ | refine loopQ_ret ?_ | refine endQ_ret ?_ | refine endQ_norm ?_ | refine endE_ret ?_ | refine endE_norm ?_ | refine endI_ret ?_ | refine endI_norm ?_)
      | (with_reducible refine wp_regK fun K hK => ?_
         simp
         repeat' (with_reducible first | refine hK _ ?_ | (refine psel ?_ ?_ <;> (intro hc; (try rw [Decidable.not_not] at hc); first | (exfalso; omega) | (try simp [hc]))))
         all_goals (clear hK; clear K))
      | (with_reducible refine wp_condE ?_
         refine ⟨_, rfl, ?_, ?_⟩ <;> (intro hc; (try simp at hc); (all_goals first | (exfalso; omega) | skip))))
    all_goals first | (simp_all [pf322]; done) | (simp_all [pf322]; omega)
  · unfold pl322_0
    simp only [List.length_cons] at h
    simp only [refAtF, inRef, Bool.and_eq_true, decide_eq_true_eq] at h2
    have hw : IntKind.wrap .i64 ((pre.length : Int) + 1) = (pre.length : Int) + 1 := wrap_i64 (by omega) (by omega)
    repeat' (first
      | with_reducible (first | refine wp_seq ?_ | refine wp_blk ?_ | refine wp_skip ?_ | refine wp_exit ?_ | refine wp_ret ?_ | refine seqQ_norm ?_ | refine seqQ_ret ?_ | refine seqQ_exit ?_ | refine blkQ_norm ?_ | refine blkQ_ret ?_ | refine blkQ_exit ?_ | refine loopQ_norm ?_ | refine loopQ_exit ?_ | refine loopQ_ret ?_ | refine endQ_ret ?_ | refine endQ_norm ?_ | refine endE_ret ?_ | refine endE_norm ?_ | refine endI_ret ?_ | refine endI_norm ?_)
      | (with_reducible refine wp_regK fun K hK => ?_
         simp[hw]
         repeat' (with_reducible first | refine hK _ ?_ | (refine psel ?_ ?_ <;> (intro hc; (try rw [Decidable.not_not] at hc); first | (exfalso; omega) | (try simp [hc, hw]))))
         all_goals (clear hK; clear K))
      | (with_reducible refine wp_condE ?_
         refine ⟨_, rfl, ?_, ?_⟩ <;> (intro hc; (try simp at hc); (all_goals first | (exfalso; omega) | skip))))
    all_goals first | (refine ⟨(pre ++ [d], rest), ?_, ⟨?_, ?_⟩, ?_⟩; (focus (first | (simp; done) | (simp_all; done))); (focus (simp; done)); (focus (refine Eq.trans ?_ h2; clear h2; first | (simp [*]; done) | (simp_all; done) | (split <;> simp_all <;> omega) | (split <;> first | (exfalso; omega) | (simp_all; done)))); (focus (simp; done))) | (simp_all [pf322]; done) | (simp_all [pf322]; omega) | (split at h2 <;> first | (exfalso; omega) | (simp_all [pf322]; done))

def refEq (a b : XRef) : Bool := a.Buf == b.Buf && (a.Gen == b.Gen && (a.Kind == b.Kind && (a.First == b.First && a.Many == b.Many)))
def refsZ : List (XRef × XRef) → Bool
  | [] => true
  | d :: z => if refEq d.1 d.2 then refsZ z else false

theorem zip_ex {α β : Type} : ∀ (l : List α) (m : List β), l.length = m.length → ∃ z : List (α × β), l = z.map Prod.fst ∧ m = z.map Prod.snd
  | [], [], _ => ⟨[], rfl, rfl⟩
  | a :: l, b :: m, h => by
    obtain ⟨z, rfl, rfl⟩ := zip_ex l m (by simpa using h)
    exact ⟨(a, b) :: z, rfl, rfl⟩

def sameRefsF (l m : List XRef) : Bool := if l.length = m.length then refsZ (l.zip m) else false

theorem zip_map {α β : Type} (z : List (α × β)) : (z.map Prod.fst).zip (z.map Prod.snd) = z := by
  induction z with
  | nil => rfl
  | cons p z ih => simp [ih]

theorem t403z (k0 k1 : Bool) (z : List (XRef × XRef)) (h : z.length ≤ 1048576) : Gw TT 403 [.one (.ro k0 (.sl 5 (z.map (XRef.e ∘ Prod.fst)))), .one (.ro k1 (.sl 5 (z.map (XRef.e ∘ Prod.snd))))] = some (vb (refsZ z), []) := by
  refine Gw_of (F := pf403) rfl rfl ?_
  show Wp _ pb403 _ _
  unfold pb403
  repeat' (first
    | with_reducible (first | refine wp_seq ?_ | refine wp_blk ?_ | refine wp_skip ?_ | refine wp_exit ?_ | refine wp_ret ?_ | refine seqQ_norm ?_ | refine seqQ_ret ?_ | refine seqQ_exit ?_ | refine blkQ_norm ?_ | refine blkQ_ret ?_ | refine blkQ_exit ?_ | refine loopQ_norm ?_ | refine loopQ_exit ?_ | refine loopQ_ret ?_ | refine endQ_ret ?_ | refine endQ_norm ?_ | refine endE_ret ?_ | refine endE_norm ?_ | refine endI_ret ?_ | refine endI_norm ?_)
    | (with_reducible refine wp_regK fun K hK => ?_
       simp
       repeat' (with_reducible first | refine hK _ ?_ | (refine psel ?_ ?_ <;> (intro hc; (try rw [Decidable.not_not] at hc); first | (exfalso; omega) | (try simp [hc]))))
       all_goals (clear hK; clear K))
    | (with_reducible refine wp_condE ?_
       refine ⟨_, rfl, ?_, ?_⟩ <;> (intro hc; (try simp at hc); (all_goals first | (exfalso; omega) | skip))))
  refine wp_loopI (σ := List (XRef × XRef) × List (XRef × XRef)) (fun s => [(0, AV.v k0 (D.sl 5 (z.map (XRef.e ∘ Prod.fst))), none), (1, AV.v k1 (D.sl 5 (z.map (XRef.e ∘ Prod.snd))), none), (12, AV.v false (di (z.length : Nat)), none), (13, AV.v false (di ((s.1.length : Nat) : Int)), none)]) (fun s => z = s.1 ++ s.2 ∧ refsZ s.2 = refsZ z) (fun s => s.2.length) ([], z) (by simp) ⟨rfl, rfl⟩ ?_
  rintro ⟨pre, rest⟩ ⟨h1, h2⟩
  simp only at h1 h2
  subst h1
  simp only [List.length_append, List.length_cons] at h
  rcases rest with _ | ⟨d, rest⟩
  · unfold pl403_0
    simp only [refsZ, refEq, Bool.and_eq_true, beq_iff_eq] at h2
    repeat' (first
      | with_reducible (first | refine wp_seq ?_ | refine wp_blk ?_ | refine wp_skip ?_ | refine wp_exit ?_ | refine wp_ret ?_ | refine seqQ_norm ?_ | refine seqQ_ret ?_ | refine seqQ_exit ?_ | refine blkQ_norm ?_ | refine blkQ_ret ?_ | refine blkQ_exit ?_ | refine loopQ_norm ?_ | refine loopQ_exit ?_ | refine loopQ_ret ?_ | refine endQ_ret ?_ | refine endQ_norm ?_ | refine endE_ret ?_ | refine endE_norm ?_ | refine endI_ret ?_ | refine endI_norm ?_)
      | (with_reducible refine wp_regK fun K hK => ?_
         simp
         repeat' (with_reducible first | refine hK _ ?_ | (refine psel ?_ ?_ <;> (intro hc; (try rw [Decidable.not_not] at hc); first | (exfalso; omega) | (try simp [hc]))))
         all_goals (clear hK; clear K))
      | (with_reducible refine wp_condE ?_
         refine ⟨_, rfl, ?_, ?_⟩ <;> (intro hc; (try simp at hc); (all_goals first | (exfalso; omega) | skip))))
    all_goals first | (simp_all [pf403]; done) | (simp_all [pf403]; omega)
  · unfold pl403_0
    simp only [List.length_cons] at h
    simp only [refsZ, refEq, Bool.and_eq_true, beq_iff_eq] at h2
    have hw : IntKind.wrap .i64 ((pre.length : Int) + 1) = (pre.length : Int) + 1 := wrap_i64 (by omega) (by omega)
    repeat' (first
      | with_reducible (first | refine wp_seq ?_ | refine wp_blk ?_ | refine wp_skip ?_ | refine wp_exit ?_ | refine wp_ret ?_ | refine seqQ_norm ?_ | refine seqQ_ret ?_ | refine seqQ_exit ?_ | refine blkQ_norm ?_ | refine blkQ_ret ?_ | refine blkQ_exit ?_ | refine loopQ_norm ?_ | refine loopQ_exit ?_ | refine loopQ_ret ?_ | refine endQ_ret ?_ | refine endQ_norm ?_ | refine endE_ret ?_ | refine endE_norm ?_ | refine endI_ret ?_ | refine endI_norm ?_)
      | (with_reducible refine wp_regK fun K hK => ?_
         simp[hw]
         repeat' (with_reducible first | refine hK _ ?_ | (refine psel ?_ ?_ <;> (intro hc; (try rw [Decidable.not_not] at hc); first | (exfalso; omega) | (try simp [hc, hw]))))
         all_goals (clear hK; clear K))
      | (with_reducible refine wp_condE ?_
         refine ⟨_, rfl, ?_, ?_⟩ <;> (intro hc; (try simp at hc); (all_goals first | (exfalso; omega) | skip))))
    all_goals first | (refine ⟨(pre ++ [d], rest), ?_, ⟨?_, ?_⟩, ?_⟩; (focus (first | (simp; done) | (simp_all; done))); (focus (simp; done)); (focus (refine Eq.trans ?_ h2; clear h2; first | (simp [*]; done) | (simp_all; done) | (split <;> simp_all <;> omega) | (split <;> first | (exfalso; omega) | (simp_all; done)))); (focus (simp; done))) | (simp_all [pf403]; done) | (simp_all [pf403]; omega) | (split at h2 <;> first | (exfalso; omega) | (simp_all [pf403]; done))

@[simp] theorem t403 (k0 k1 : Bool) (l m : List XRef) (h : l.length ≤ 1048576) (h1 : m.length ≤ 1048576) : Gw TT 403 [.one (.ro k0 (.sl 5 (l.map XRef.e))), .one (.ro k1 (.sl 5 (m.map XRef.e)))] = some (vb (sameRefsF l m), []) := by
  by_cases hl : l.length = m.length
  · obtain ⟨z, rfl, rfl⟩ := zip_ex l m hl
    have := t403z k0 k1 z (by simpa using h)
    simp only [sameRefsF, hl, if_true, zip_map, List.map_map]
    exact this
  · refine Gw_of (F := pf403) rfl rfl ?_
    show Wp _ pb403 _ _
    unfold pb403
    repeat' (first
      | with_reducible (first | refine wp_seq ?_ | refine wp_blk ?_ | refine wp_skip ?_ | refine wp_exit ?_ | refine wp_ret ?_ | refine seqQ_norm ?_ | refine seqQ_ret ?_ | refine seqQ_exit ?_ | refine blkQ_norm ?_ | refine blkQ_ret ?_ | refine blkQ_exit ?_ | refine loopQ_norm ?_ | refine loopQ_exit ?_ | refine loopQ_ret ?_ | refine endQ_ret ?_ | refine endQ_norm ?_ | refine endE_ret ?_ | refine endE_norm ?_ | refine endI_ret ?_ | refine endI_norm ?_)
      | (with_reducible refine wp_regK fun K hK => ?_
         simp
         repeat' (with_reducible first | refine hK _ ?_ | (refine psel ?_ ?_ <;> (intro hc; (try rw [Decidable.not_not] at hc); first | (exfalso; omega) | (try simp [hc]))))
         all_goals (clear hK; clear K))
      | (with_reducible refine wp_condE ?_
         refine ⟨_, rfl, ?_, ?_⟩ <;> (intro hc; (try simp at hc); (all_goals first | (exfalso; omega) | skip))))
    all_goals first | (simp_all [pf403, sameRefsF]; done) | (exfalso; omega)

@[simp] theorem t47 (k0 k1 : Bool) (x_Ver y_Ver : Int) (x_L y_L : List XRef) (h : x_L.length ≤ 1048576) (h1 : y_L.length ≤ 1048576) : Gw TT 47 [.st [.ro false (di x_Ver), .ro k0 (.sl 5 (x_L.map XRef.e))], .st [.ro false (di y_Ver), .ro k1 (.sl 5 (y_L.map XRef.e))]] = some (vb (x_Ver == y_Ver && sameRefsF x_L y_L), []) := by
  refine Gw_of (F := pf47) rfl rfl ?_
  show Wp _ pb47 _ _
  unfold pb47
  repeat' (first
    | with_reducible (first | refine wp_seq ?_ | refine wp_blk ?_ | refine wp_skip ?_ | refine wp_exit ?_ | refine wp_ret ?_ | refine seqQ_norm ?_ | refine seqQ_ret ?_ | refine seqQ_exit ?_ | refine blkQ_norm ?_ | refine blkQ_ret ?_ | refine blkQ_exit ?_ | refine loopQ_norm ?_ | refine loopQ_exit ?_ | refine loopQ_ret ?_ | refine endQ_ret ?_ | refine endQ_norm ?_ | refine endE_ret ?_ | refine endE_norm ?_ | refine endI_ret ?_ | refine endI_norm ?_)
    | (with_reducible refine wp_regK fun K hK => ?_
       simp[h, h1]
       repeat' (with_reducible first | refine hK _ ?_ | (refine psel ?_ ?_ <;> (intro hc; (try rw [Decidable.not_not] at hc); first | (exfalso; omega) | (try simp [hc, h, h1]))))
       all_goals (clear hK; clear K))
    | (with_reducible refine wp_condE ?_
       refine ⟨_, rfl, ?_, ?_⟩ <;> (intro hc; (try simp at hc); (all_goals first | (exfalso; omega) | skip))))
  all_goals first | (simp_all [pf47]; done) | (simp_all [pf47]; omega)

def refOkF (b g k m : Int) : Bool := decide (0 ≤ b) && decide (0 ≤ g) && (decide (1 ≤ k) && decide (k ≤ 2)) && (decide (1 ≤ m) && decide (m ≤ 1000000000))

@[simp] theorem t82 (x_Buf x_Gen x_Kind x_First x_Many : Int) : Gw TT 82 [.st [.ro false (di x_Buf), .ro false (di x_Gen), .ro false (di x_Kind), .ro false (di x_First), .ro false (di x_Many)]] = some (vb (refOkF x_Buf x_Gen x_Kind x_Many), []) := by
  refine Gw_of (F := pf82) rfl rfl ?_
  show Wp _ pb82 _ _
  unfold pb82
  repeat' (first
    | with_reducible (first | refine wp_seq ?_ | refine wp_blk ?_ | refine wp_skip ?_ | refine wp_exit ?_ | refine wp_ret ?_ | refine seqQ_norm ?_ | refine seqQ_ret ?_ | refine seqQ_exit ?_ | refine blkQ_norm ?_ | refine blkQ_ret ?_ | refine blkQ_exit ?_ | refine loopQ_norm ?_ | refine loopQ_exit ?_ | refine loopQ_ret ?_ | refine endQ_ret ?_ | refine endQ_norm ?_ | refine endE_ret ?_ | refine endE_norm ?_ | refine endI_ret ?_ | refine endI_norm ?_)
    | (with_reducible refine wp_regK fun K hK => ?_
       simp
       repeat' (with_reducible first | refine hK _ ?_ | (refine psel ?_ ?_ <;> (intro hc; (try rw [Decidable.not_not] at hc); first | (exfalso; omega) | (try simp [hc]))))
       all_goals (clear hK; clear K))
    | (with_reducible refine wp_condE ?_
       refine ⟨_, rfl, ?_, ?_⟩ <;> (intro hc; (try simp at hc); (all_goals first | (exfalso; omega) | skip))))
  all_goals first | (simp_all [pf82, refOkF]; done) | (simp [pf82, refOkF]; omega) | (simp_all [pf82, refOkF]; omega)

@[simp] theorem t370 (x_Buf x_Gen x_Kind x_First x_Many : Int) : Gw TT 370 [.st [.ro false (di x_Buf), .ro false (di x_Gen), .ro false (di x_Kind), .ro false (di x_First), .ro false (di x_Many)]] = some (vb (refOkF x_Buf x_Gen x_Kind x_Many), []) := by
  refine Gw_of (F := pf370) rfl rfl ?_
  show Wp _ pb370 _ _
  unfold pb370
  repeat' (first
    | with_reducible (first | refine wp_seq ?_ | refine wp_blk ?_ | refine wp_skip ?_ | refine wp_exit ?_ | refine wp_ret ?_ | refine seqQ_norm ?_ | refine seqQ_ret ?_ | refine seqQ_exit ?_ | refine blkQ_norm ?_ | refine blkQ_ret ?_ | refine blkQ_exit ?_ | refine loopQ_norm ?_ | refine loopQ_exit ?_ | refine loopQ_ret ?_ | refine endQ_ret ?_ | refine endQ_norm ?_ | refine endE_ret ?_ | refine endE_norm ?_ | refine endI_ret ?_ | refine endI_norm ?_)
    | (with_reducible refine wp_regK fun K hK => ?_
       simp
       repeat' (with_reducible first | refine hK _ ?_ | (refine psel ?_ ?_ <;> (intro hc; (try rw [Decidable.not_not] at hc); first | (exfalso; omega) | (try simp [hc]))))
       all_goals (clear hK; clear K))
    | (with_reducible refine wp_condE ?_
       refine ⟨_, rfl, ?_, ?_⟩ <;> (intro hc; (try simp at hc); (all_goals first | (exfalso; omega) | skip))))
  all_goals first | (simp_all [pf370, refOkF]; done) | (simp [pf370, refOkF]; omega) | (simp_all [pf370, refOkF]; omega)

@[simp] theorem take_mid {α : Type} {n : Nat} (l r : List α) (h : n = l.length) : (l ++ r).take n = l := by subst h; simp

def dirB : List XRef → Int → List XRef → Bool
  | _, _, [] => true
  | p, e, r :: l => if refOkF r.Buf r.Gen r.Kind r.Many = true ∧ r.First = e ∧ hasBufF r.Buf p = false then dirB (p ++ [r]) (IntKind.wrap .i64 (e + r.Many)) l else false
def dirOkB (v : Int) (l : List XRef) : Bool := decide (0 ≤ v) && decide ((l.length : Int) ≤ 8) && dirB [] 0 l

theorem t15g (k0 : Bool) (x_Ver : Int) (x_L : List XRef) (h : x_L.length ≤ 1048577) : Gw TT 15 [.st [.ro false (di x_Ver), .ro k0 (.sl 5 (x_L.map XRef.e))]] = some (vb (dirOkB x_Ver x_L), []) := by
  refine Gw_of (F := pf15) rfl rfl ?_
  show Wp _ pb15 _ _
  unfold pb15
  repeat' (first
    | with_reducible (first | refine wp_seq ?_ | refine wp_blk ?_ | refine wp_skip ?_ | refine wp_exit ?_ | refine wp_ret ?_ | refine seqQ_norm ?_ | refine seqQ_ret ?_ | refine seqQ_exit ?_ | refine blkQ_norm ?_ | refine blkQ_ret ?_ | refine blkQ_exit ?_ | refine loopQ_norm ?_ | refine loopQ_exit ?_ | refine loopQ_ret ?_ | refine endQ_ret ?_ | refine endQ_norm ?_ | refine endE_ret ?_ | refine endE_norm ?_ | refine endI_ret ?_ | refine endI_norm ?_)
    | (with_reducible refine wp_regK fun K hK => ?_
       simp
       repeat' (with_reducible first | refine hK _ ?_ | (refine psel ?_ ?_ <;> (intro hc; (try rw [Decidable.not_not] at hc); first | (exfalso; omega) | (try simp [hc]))))
       all_goals (clear hK; clear K))
    | (with_reducible refine wp_condE ?_
       refine ⟨_, rfl, ?_, ?_⟩ <;> (intro hc; (try simp at hc); (all_goals first | (exfalso; omega) | skip))))
  all_goals first | (simp_all [pf15, dirOkB]; done) | (simp [pf15, dirOkB]; omega) | skip
  refine wp_loopI (σ := List XRef × List XRef × Int) (fun s => [(1, AV.bx 1 0, some (Rt.bx [.ro false (di x_Ver), .ro k0 (.sl 5 (x_L.map XRef.e))])), (3, AV.v false (di s.2.2), none), (16, AV.v k0 (D.sl 5 (x_L.map XRef.e)), none), (17, AV.v false (di (x_L.length : Nat)), none), (18, AV.v false (di ((s.1.length : Nat) : Int)), none)]) (fun s => x_L = s.1 ++ s.2.1 ∧ dirB s.1 s.2.2 s.2.1 = dirB [] 0 x_L) (fun s => s.2.1.length) ([], x_L, 0) (by simp) ⟨rfl, rfl⟩ ?_
  rintro ⟨pre, rest, a⟩ ⟨h1, h2⟩
  simp only at h1 h2
  subst h1
  simp only [List.length_append, List.length_cons] at h
  rcases rest with _ | ⟨d, rest⟩
  · unfold pl15_0
    simp only [dirB] at h2
    repeat' (first
      | with_reducible (first | refine wp_seq ?_ | refine wp_blk ?_ | refine wp_skip ?_ | refine wp_exit ?_ | refine wp_ret ?_ | refine seqQ_norm ?_ | refine seqQ_ret ?_ | refine seqQ_exit ?_ | refine blkQ_norm ?_ | refine blkQ_ret ?_ | refine blkQ_exit ?_ | refine loopQ_norm ?_ | refine loopQ_exit ?_ | refine loopQ_ret ?_ | refine endQ_ret ?_ | refine endQ_norm ?_ | refine endE_ret ?_ | refine endE_norm ?_ | refine endI_ret ?_ | refine endI_norm ?_)
      | (with_reducible refine wp_regK fun K hK => ?_
         simp
         repeat' (with_reducible first | refine hK _ ?_ | (refine psel ?_ ?_ <;> (intro hc; (try rw [Decidable.not_not] at hc); first | (exfalso; omega) | (try simp [hc]))))
         all_goals (clear hK; clear K))
      | (with_reducible refine wp_condE ?_
         refine ⟨_, rfl, ?_, ?_⟩ <;> (intro hc; (try simp at hc); (all_goals first | (exfalso; omega) | skip))))
    all_goals first | (simp_all [pf15, dirOkB]; done) | (simp_all [pf15, dirOkB]; omega)
  · unfold pl15_0
    simp only [List.length_cons] at h
    simp only [dirB] at h2
    have hw : IntKind.wrap .i64 ((pre.length : Int) + 1) = (pre.length : Int) + 1 := wrap_i64 (by omega) (by omega)
    have hb : ((pre.length : Int) ≤ (pre.length : Int) + ((rest.length : Int) + 1)) := by omega
    have hl : pre.length ≤ 1048576 := by omega
    repeat' (first
      | with_reducible (first | refine wp_seq ?_ | refine wp_blk ?_ | refine wp_skip ?_ | refine wp_exit ?_ | refine wp_ret ?_ | refine seqQ_norm ?_ | refine seqQ_ret ?_ | refine seqQ_exit ?_ | refine blkQ_norm ?_ | refine blkQ_ret ?_ | refine blkQ_exit ?_ | refine loopQ_norm ?_ | refine loopQ_exit ?_ | refine loopQ_ret ?_ | refine endQ_ret ?_ | refine endQ_norm ?_ | refine endE_ret ?_ | refine endE_norm ?_ | refine endI_ret ?_ | refine endI_norm ?_)
      | (with_reducible refine wp_regK fun K hK => ?_
         simp[hw, hb, hl]
         repeat' (with_reducible first | refine hK _ ?_ | (refine psel ?_ ?_ <;> (intro hc; (try rw [Decidable.not_not] at hc); first | (exfalso; omega) | (try simp [hc, hw, hb, hl]))))
         all_goals (clear hK; clear K))
      | (with_reducible refine wp_condE ?_
         refine ⟨_, rfl, ?_, ?_⟩ <;> (intro hc; (try simp at hc); (all_goals first | (exfalso; omega) | skip))))
    all_goals first | (refine ⟨(pre ++ [d], rest, IntKind.wrap .i64 (a + d.Many)), ?_, ⟨?_, ?_⟩, ?_⟩; (focus (first | (simp; done) | (simp_all; done))); (focus (simp; done)); (focus (refine Eq.trans ?_ h2; clear h2; first | (simp [*]; done) | (simp_all; done))); (focus (simp; done))) | (simp_all [pf15, dirOkB]; done)

@[simp] theorem t15 (k0 : Bool) (x_Ver : Int) (x_L : List XRef) (h : x_L.length ≤ 1048576) : Gw TT 15 [.st [.ro false (di x_Ver), .ro k0 (.sl 5 (x_L.map XRef.e))]] = some (vb (dirOkB x_Ver x_L), []) := t15g k0 x_Ver x_L (by omega)

theorem t271g (k0 : Bool) (x_Ver : Int) (x_L : List XRef) (h : x_L.length ≤ 1048577) : Gw TT 271 [.st [.ro false (di x_Ver), .ro k0 (.sl 5 (x_L.map XRef.e))]] = some (vb (dirOkB x_Ver x_L), []) := by
  refine Gw_of (F := pf271) rfl rfl ?_
  show Wp _ pb271 _ _
  unfold pb271
  repeat' (first
    | with_reducible (first | refine wp_seq ?_ | refine wp_blk ?_ | refine wp_skip ?_ | refine wp_exit ?_ | refine wp_ret ?_ | refine seqQ_norm ?_ | refine seqQ_ret ?_ | refine seqQ_exit ?_ | refine blkQ_norm ?_ | refine blkQ_ret ?_ | refine blkQ_exit ?_ | refine loopQ_norm ?_ | refine loopQ_exit ?_ | refine loopQ_ret ?_ | refine endQ_ret ?_ | refine endQ_norm ?_ | refine endE_ret ?_ | refine endE_norm ?_ | refine endI_ret ?_ | refine endI_norm ?_)
    | (with_reducible refine wp_regK fun K hK => ?_
       simp
       repeat' (with_reducible first | refine hK _ ?_ | (refine psel ?_ ?_ <;> (intro hc; (try rw [Decidable.not_not] at hc); first | (exfalso; omega) | (try simp [hc]))))
       all_goals (clear hK; clear K))
    | (with_reducible refine wp_condE ?_
       refine ⟨_, rfl, ?_, ?_⟩ <;> (intro hc; (try simp at hc); (all_goals first | (exfalso; omega) | skip))))
  all_goals first | (simp_all [pf271, dirOkB]; done) | (simp [pf271, dirOkB]; omega) | skip
  refine wp_loopI (σ := List XRef × List XRef × Int) (fun s => [(1, AV.bx 1 0, some (Rt.bx [.ro false (di x_Ver), .ro k0 (.sl 5 (x_L.map XRef.e))])), (3, AV.v false (di s.2.2), none), (4, AV.v false (di ((s.1.length : Nat) : Int)), none)]) (fun s => x_L = s.1 ++ s.2.1 ∧ dirB s.1 s.2.2 s.2.1 = dirB [] 0 x_L) (fun s => s.2.1.length) ([], x_L, 0) (by simp) ⟨rfl, rfl⟩ ?_
  rintro ⟨pre, rest, a⟩ ⟨h1, h2⟩
  simp only at h1 h2
  subst h1
  simp only [List.length_append, List.length_cons] at h
  rcases rest with _ | ⟨d, rest⟩
  · unfold pl271_1
    simp only [dirB] at h2
    repeat' (first
      | with_reducible (first | refine wp_seq ?_ | refine wp_blk ?_ | refine wp_skip ?_ | refine wp_exit ?_ | refine wp_ret ?_ | refine seqQ_norm ?_ | refine seqQ_ret ?_ | refine seqQ_exit ?_ | refine blkQ_norm ?_ | refine blkQ_ret ?_ | refine blkQ_exit ?_ | refine loopQ_norm ?_ | refine loopQ_exit ?_ | refine loopQ_ret ?_ | refine endQ_ret ?_ | refine endQ_norm ?_ | refine endE_ret ?_ | refine endE_norm ?_ | refine endI_ret ?_ | refine endI_norm ?_)
      | (with_reducible refine wp_regK fun K hK => ?_
         simp
         repeat' (with_reducible first | refine hK _ ?_ | (refine psel ?_ ?_ <;> (intro hc; (try rw [Decidable.not_not] at hc); first | (exfalso; omega) | (try simp [hc]))))
         all_goals (clear hK; clear K))
      | (with_reducible refine wp_condE ?_
         refine ⟨_, rfl, ?_, ?_⟩ <;> (intro hc; (try simp at hc); (all_goals first | (exfalso; omega) | skip))))
    all_goals first | (simp_all [pf271, dirOkB]; done) | (simp_all [pf271, dirOkB]; omega)
  · unfold pl271_1
    simp only [List.length_cons] at h
    simp only [dirB] at h2
    have hw : IntKind.wrap .i64 ((pre.length : Int) + 1) = (pre.length : Int) + 1 := wrap_i64 (by omega) (by omega)
    repeat' (first
      | with_reducible (first | refine wp_seq ?_ | refine wp_blk ?_ | refine wp_skip ?_ | refine wp_exit ?_ | refine wp_ret ?_ | refine seqQ_norm ?_ | refine seqQ_ret ?_ | refine seqQ_exit ?_ | refine blkQ_norm ?_ | refine blkQ_ret ?_ | refine blkQ_exit ?_ | refine loopQ_norm ?_ | refine loopQ_exit ?_ | refine loopQ_ret ?_ | refine endQ_ret ?_ | refine endQ_norm ?_ | refine endE_ret ?_ | refine endE_norm ?_ | refine endI_ret ?_ | refine endI_norm ?_)
      | (with_reducible refine wp_regK fun K hK => ?_
         simp[hw]
         repeat' (with_reducible first | refine hK _ ?_ | (refine psel ?_ ?_ <;> (intro hc; (try rw [Decidable.not_not] at hc); first | (exfalso; omega) | (try simp [hc, hw]))))
         all_goals (clear hK; clear K))
      | (with_reducible refine wp_condE ?_
         refine ⟨_, rfl, ?_, ?_⟩ <;> (intro hc; (try simp at hc); (all_goals first | (exfalso; omega) | skip))))
    all_goals first | (simp_all [pf271, dirOkB]; done) | skip
    have hr : refOkF d.Buf d.Gen d.Kind d.Many = true := by simpa using ‹¬refOkF d.Buf d.Gen d.Kind d.Many = false›
    have hd : d.First = a := by assumption
    refine wp_loopI (σ := List XRef × List XRef) (fun s => [(1, AV.bx 1 0, some (Rt.bx [.ro false (di x_Ver), .ro k0 (.sl 5 ((pre ++ d :: rest).map XRef.e))])), (3, AV.v false (di (IntKind.wrap .i64 (a + d.Many))), none), (4, AV.v false (di ((pre.length : Nat) : Int)), none), (5, AV.v false (di ((s.1.length : Nat) : Int)), none)]) (fun s => pre = s.1 ++ s.2 ∧ hasBufF d.Buf s.2 = hasBufF d.Buf pre) (fun s => s.2.length) ([], pre) (by simp) ⟨rfl, rfl⟩ ?_
    rintro ⟨p1, p2⟩ ⟨h3, h4⟩
    simp only at h3 h4
    rcases p2 with _ | ⟨e, p2⟩
    · simp only [List.append_nil] at h3
      subst h3
      unfold pl271_0
      simp only [hasBufF] at h4
      repeat' (first
        | with_reducible (first | refine wp_seq ?_ | refine wp_blk ?_ | refine wp_skip ?_ | refine wp_exit ?_ | refine wp_ret ?_ | refine seqQ_norm ?_ | refine seqQ_ret ?_ | refine seqQ_exit ?_ | refine blkQ_norm ?_ | refine blkQ_ret ?_ | refine blkQ_exit ?_ | refine loopQ_norm ?_ | refine loopQ_exit ?_ | refine loopQ_ret ?_ | refine endQ_ret ?_ | refine endQ_norm ?_ | refine endE_ret ?_ | refine endE_norm ?_ | refine endI_ret ?_ | refine endI_norm ?_)
        | (with_reducible refine wp_regK fun K hK => ?_
           simp[hw]
           repeat' (with_reducible first | refine hK _ ?_ | (refine psel ?_ ?_ <;> (intro hc; (try rw [Decidable.not_not] at hc); first | (exfalso; omega) | (try simp [hc, hw]))))
           all_goals (clear hK; clear K))
        | (with_reducible refine wp_condE ?_
           refine ⟨_, rfl, ?_, ?_⟩ <;> (intro hc; (try simp at hc); (all_goals first | (exfalso; omega) | skip))))
      all_goals first | (refine ⟨(pre ++ [d], rest, IntKind.wrap .i64 (a + d.Many)), ?_, ⟨?_, ?_⟩, ?_⟩; (focus (first | (simp; done) | (simp_all; done))); (focus (simp; done)); (focus (refine Eq.trans ?_ h2; clear h2; rw [if_pos ⟨hr, hd, h4.symm⟩])); (focus (simp; done)))
    · unfold pl271_0
      simp only [hasBufF] at h4
      subst h3
      simp only [List.length_append, List.length_cons] at h hw
      have hv : IntKind.wrap .i64 ((p1.length : Int) + 1) = (p1.length : Int) + 1 := wrap_i64 (by omega) (by omega)
      have hn : ((p1.length : Int) + ((p2.length : Int) + 1)).toNat = p1.length + (p2.length + 1) := by omega
      have hx4 : (List.map XRef.e p1 ++ [di e.Buf, di e.Gen, di e.Kind, di e.First, di e.Many] :: (List.map XRef.e p2 ++ [di d.Buf, di d.Gen, di d.Kind, di d.First, di d.Many] :: List.map XRef.e rest))[p1.length + (p2.length + 1)]? = some [di d.Buf, di d.Gen, di d.Kind, di d.First, di d.Many] := by
        rw [List.getElem?_append_right (by simp), List.length_map, Nat.add_sub_cancel_left, List.getElem?_cons_succ]
        exact get_mid _ _ _ (by simp)
      repeat' (first
        | with_reducible (first | refine wp_seq ?_ | refine wp_blk ?_ | refine wp_skip ?_ | refine wp_exit ?_ | refine wp_ret ?_ | refine seqQ_norm ?_ | refine seqQ_ret ?_ | refine seqQ_exit ?_ | refine blkQ_norm ?_ | refine blkQ_ret ?_ | refine blkQ_exit ?_ | refine loopQ_norm ?_ | refine loopQ_exit ?_ | refine loopQ_ret ?_ | refine endQ_ret ?_ | refine endQ_norm ?_ | refine endE_ret ?_ | refine endE_norm ?_ | refine endI_ret ?_ | refine endI_norm ?_)
        | (with_reducible refine wp_regK fun K hK => ?_
           simp[hv, hn, hx4]
           repeat' (with_reducible first | refine hK _ ?_ | (refine psel ?_ ?_ <;> (intro hc; (try rw [Decidable.not_not] at hc); first | (exfalso; omega) | (try simp [hc, hv, hn, hx4]))))
           all_goals (clear hK; clear K))
        | (with_reducible refine wp_condE ?_
           refine ⟨_, rfl, ?_, ?_⟩ <;> (intro hc; (try simp at hc); (all_goals first | (exfalso; omega) | skip))))
      · have h5 : hasBufF d.Buf (p1 ++ e :: p2) = true := by simp_all
        have h6 : dirB [] 0 (p1 ++ e :: p2 ++ d :: rest) = false := by rw [← h2, if_neg (by simp [h5])]
        simp [pf271, dirOkB]
        simpa using fun _ _ => h6
      · refine ⟨(p1 ++ [e], p2), ?_, ⟨?_, ?_⟩, ?_⟩
        · first | (simp; done) | (simp_all; done)
        · simp
        · refine Eq.trans ?_ h4
          simp [*]
        · simp

@[simp] theorem t271 (k0 : Bool) (x_Ver : Int) (x_L : List XRef) (h : x_L.length ≤ 1048576) : Gw TT 271 [.st [.ro false (di x_Ver), .ro k0 (.sl 5 (x_L.map XRef.e))]] = some (vb (dirOkB x_Ver x_L), []) := t271g k0 x_Ver x_L (by omega)

@[simp] theorem bytesStr_map (l : List Int) : bytesStr (l.map eb) = some (l.map fun n => UInt8.ofNat n.toNat) := by
  induction l with
  | nil => rfl
  | cons n l ih =>
    have : bytesStr (List.map eb (n :: l)) = match bytesStr (l.map eb) with
      | some bs => some (UInt8.ofNat n.toNat :: bs)
      | none => none := rfl
    rw [this, ih]; rfl

@[simp] theorem flatD_nil : flatD [] = true := rfl

@[simp] theorem flatD_map {α : Type} (f : α → List D) (l : List α) (h : ∀ x, (f x).all D.scal = true) : flatD (l.map f) = true := by
  simp only [flatD, List.all_map, List.all_eq_true, Function.comp]
  exact fun x _ => List.all_eq_true.1 (h x)

@[simp] theorem flatD_one (e : List D) (l : List (List D)) : flatD (e :: l) = (e.all D.scal && flatD l) := rfl

@[simp] theorem flatD_app (l m : List (List D)) : flatD (l ++ m) = (flatD l && flatD m) := by simp [flatD]

@[simp] theorem live_int (k : IntKind) (n : Int) : (D.int k n).live = true := rfl

@[simp] theorem live_bool (b : Bool) : (D.bool b).live = true := rfl

@[simp] theorem live_str (s : ByteArray) : (D.str s).live = true := rfl

@[simp] theorem live_sl (sz : Nat) (es : List (List D)) : (D.sl sz es).live = true := rfl

@[simp] theorem ba_one (x : UInt8) : (ByteArray.mk #[x]).size = 1 := rfl

@[simp] theorem take_all1 {α : Type} {n : Nat} (l r : List α) (x : α) (h : n = l.length + (r.length + 1)) : (l ++ x :: r).take n = l ++ x :: r := by
  rw [List.take_of_length_le]
  simp only [List.length_append, List.length_cons]
  omega

@[simp] theorem drop_mid1 {α : Type} {n : Nat} (l r : List α) (x : α) (h : n = l.length + 1) : (l ++ x :: r).drop n = r := by
  subst h
  rw [List.drop_append]
  simp

@[simp] theorem take_len_map {α β : Type} (f : α → β) (l : List α) : (l.map f).take l.length = l.map f := by
  rw [List.take_of_length_le]; simp

@[simp] theorem flatD_drop_map {α : Type} (f : α → List D) (l : List α) (n : Nat) (h : ∀ x, (f x).all D.scal = true) : flatD ((l.map f).drop n) = true := by
  rw [← List.map_drop]; exact flatD_map f _ h

@[simp] theorem flatD_take_map {α : Type} (f : α → List D) (l : List α) (n : Nat) (h : ∀ x, (f x).all D.scal = true) : flatD ((l.map f).take n) = true := by
  rw [← List.map_take]; exact flatD_map f _ h

@[simp] theorem t74 (k0 : Bool) (l : List XRef) (h : l.length ≤ 1048576) : Gw TT 74 [.one (.ro k0 (.sl 5 (l.map XRef.e)))] = some (.one (.own (.sl 5 (l.map XRef.e))), []) := by
  refine Gw_of (F := pf74) rfl rfl ?_
  show Wp _ pb74 _ _
  unfold pb74
  repeat' (first
    | with_reducible (first | refine wp_seq ?_ | refine wp_blk ?_ | refine wp_skip ?_ | refine wp_exit ?_ | refine wp_ret ?_ | refine seqQ_norm ?_ | refine seqQ_ret ?_ | refine seqQ_exit ?_ | refine blkQ_norm ?_ | refine blkQ_ret ?_ | refine blkQ_exit ?_ | refine loopQ_norm ?_ | refine loopQ_exit ?_ | refine loopQ_ret ?_ | refine endQ_ret ?_ | refine endQ_norm ?_ | refine endE_ret ?_ | refine endE_norm ?_ | refine endI_ret ?_ | refine endI_norm ?_)
    | (with_reducible refine wp_regK fun K hK => ?_
       simp[h]
       repeat' (with_reducible first | refine hK _ ?_ | (refine psel ?_ ?_ <;> (intro hc; (try rw [Decidable.not_not] at hc); first | (exfalso; omega) | (try simp [hc, h]))))
       all_goals (clear hK; clear K))
    | (with_reducible refine wp_condE ?_
       refine ⟨_, rfl, ?_, ?_⟩ <;> (intro hc; (try simp at hc); (all_goals first | (exfalso; omega) | skip))))
  all_goals first | (simp [pf74]; done) | (exfalso; omega)

@[simp] theorem t71 (k0 : Bool) (x_Ver : Int) (x_L : List XRef) (h : x_L.length ≤ 1048576) : Gw TT 71 [.st [.ro false (di x_Ver), .ro k0 (.sl 5 (x_L.map XRef.e))]] = some (.st [.ro false (di x_Ver), .own (.sl 5 (x_L.map XRef.e))], []) := by
  refine Gw_of (F := pf71) rfl rfl ?_
  show Wp _ pb71 _ _
  unfold pb71
  have hq : x_L.length * 40 ≤ 70368744177664 := by omega
  repeat' (first
    | with_reducible (first | refine wp_seq ?_ | refine wp_blk ?_ | refine wp_skip ?_ | refine wp_exit ?_ | refine wp_ret ?_ | refine seqQ_norm ?_ | refine seqQ_ret ?_ | refine seqQ_exit ?_ | refine blkQ_norm ?_ | refine blkQ_ret ?_ | refine blkQ_exit ?_ | refine loopQ_norm ?_ | refine loopQ_exit ?_ | refine loopQ_ret ?_ | refine endQ_ret ?_ | refine endQ_norm ?_ | refine endE_ret ?_ | refine endE_norm ?_ | refine endI_ret ?_ | refine endI_norm ?_)
    | (with_reducible refine wp_regK fun K hK => ?_
       simp[h, hq]
       repeat' (with_reducible first | refine hK _ ?_ | (refine psel ?_ ?_ <;> (intro hc; (try rw [Decidable.not_not] at hc); first | (exfalso; omega) | (try simp [hc, h, hq]))))
       all_goals (clear hK; clear K))
    | (with_reducible refine wp_condE ?_
       refine ⟨_, rfl, ?_, ?_⟩ <;> (intro hc; (try simp at hc); (all_goals first | (exfalso; omega) | skip))))
  all_goals first | (simp [pf71]; done) | (exfalso; omega)

@[simp] theorem t368 (k0 : Bool) (x_Ver : Int) (x_L : List XRef) (h : x_L.length ≤ 1048576) : Gw TT 368 [.st [.ro false (di x_Ver), .ro k0 (.sl 5 (x_L.map XRef.e))]] = some (.st [.ro false (di x_Ver), .own (.sl 5 (x_L.map XRef.e))], []) := by
  refine Gw_of (F := pf368) rfl rfl ?_
  show Wp _ pb368 _ _
  unfold pb368
  have hq : x_L.length * 40 ≤ 70368744177664 := by omega
  repeat' (first
    | with_reducible (first | refine wp_seq ?_ | refine wp_blk ?_ | refine wp_skip ?_ | refine wp_exit ?_ | refine wp_ret ?_ | refine seqQ_norm ?_ | refine seqQ_ret ?_ | refine seqQ_exit ?_ | refine blkQ_norm ?_ | refine blkQ_ret ?_ | refine blkQ_exit ?_ | refine loopQ_norm ?_ | refine loopQ_exit ?_ | refine loopQ_ret ?_ | refine endQ_ret ?_ | refine endQ_norm ?_ | refine endE_ret ?_ | refine endE_norm ?_ | refine endI_ret ?_ | refine endI_norm ?_)
    | (with_reducible refine wp_regK fun K hK => ?_
       simp[h, hq]
       repeat' (with_reducible first | refine hK _ ?_ | (refine psel ?_ ?_ <;> (intro hc; (try rw [Decidable.not_not] at hc); first | (exfalso; omega) | (try simp [hc, h, hq]))))
       all_goals (clear hK; clear K))
    | (with_reducible refine wp_condE ?_
       refine ⟨_, rfl, ?_, ?_⟩ <;> (intro hc; (try simp at hc); (all_goals first | (exfalso; omega) | skip))))
  all_goals first | (simp [pf368]; done) | (exfalso; omega)

def addOk (v : Int) (l : List XRef) (r : XRef) : Bool := dirOkB (IntKind.wrap .i64 (v + 1)) (l ++ [r])

def addV (v : Int) (l : List XRef) (r : XRef) : Int := if addOk v l r = true then IntKind.wrap .i64 (v + 1) else v

def addL (v : Int) (l : List XRef) (r : XRef) : List XRef := if addOk v l r = true then l ++ [r] else l

@[simp] theorem t4 (k0 : Bool) (x_Ver : Int) (x_L : List XRef) (r_Buf : Int) (r_Gen : Int) (r_Kind : Int) (r_First : Int) (r_Many : Int) (h : x_L.length ≤ 1048576) : Gw TT 4 [.st [.ro false (di x_Ver), .ro k0 (.sl 5 (x_L.map XRef.e))], .st [.ro false (di r_Buf), .ro false (di r_Gen), .ro false (di r_Kind), .ro false (di r_First), .ro false (di r_Many)]] = some (.tup [.st [.ro false (di (addV x_Ver x_L ⟨r_Buf, r_Gen, r_Kind, r_First, r_Many⟩)), .own (.sl 5 ((addL x_Ver x_L ⟨r_Buf, r_Gen, r_Kind, r_First, r_Many⟩).map XRef.e))], vb (addOk x_Ver x_L ⟨r_Buf, r_Gen, r_Kind, r_First, r_Many⟩)], []) := by
  refine Gw_of (F := pf4) rfl rfl ?_
  show Wp _ pb4 _ _
  unfold pb4
  have g1 := t15g true (IntKind.wrap .i64 (x_Ver + 1)) (x_L ++ [⟨r_Buf, r_Gen, r_Kind, r_First, r_Many⟩]) (by simp; omega)
  simp only [List.map_append, List.map_cons, List.map_nil, XRef.e] at g1
  have hq : x_L.length * 40 ≤ 70368744177664 := by omega
  have hq2 : (x_L.length + 1) * 40 ≤ 70368744177664 := by omega
  cases hA : dirOkB (IntKind.wrap .i64 (x_Ver + 1)) (x_L ++ [⟨r_Buf, r_Gen, r_Kind, r_First, r_Many⟩]) with
  | true =>
    rw [hA] at g1
    repeat' (first
      | with_reducible (first | refine wp_seq ?_ | refine wp_blk ?_ | refine wp_skip ?_ | refine wp_exit ?_ | refine wp_ret ?_ | refine seqQ_norm ?_ | refine seqQ_ret ?_ | refine seqQ_exit ?_ | refine blkQ_norm ?_ | refine blkQ_ret ?_ | refine blkQ_exit ?_ | refine loopQ_norm ?_ | refine loopQ_exit ?_ | refine loopQ_ret ?_ | refine endQ_ret ?_ | refine endQ_norm ?_ | refine endE_ret ?_ | refine endE_norm ?_ | refine endI_ret ?_ | refine endI_norm ?_)
      | (with_reducible refine wp_regK fun K hK => ?_
         simp[g1, h, hq, hq2]
         repeat' (with_reducible first | refine hK _ ?_ | (refine psel ?_ ?_ <;> (intro hc; (try rw [Decidable.not_not] at hc); first | (exfalso; omega) | (try simp [hc, g1, h, hq, hq2]))))
         all_goals (clear hK; clear K))
      | (with_reducible refine wp_condE ?_
         refine ⟨_, rfl, ?_, ?_⟩ <;> (intro hc; (try simp at hc); (all_goals first | (exfalso; omega) | skip))))
    all_goals first | (simp [pf4, addV, addL, addOk, hA]; done) | (exfalso; omega)
  | false =>
    rw [hA] at g1
    repeat' (first
      | with_reducible (first | refine wp_seq ?_ | refine wp_blk ?_ | refine wp_skip ?_ | refine wp_exit ?_ | refine wp_ret ?_ | refine seqQ_norm ?_ | refine seqQ_ret ?_ | refine seqQ_exit ?_ | refine blkQ_norm ?_ | refine blkQ_ret ?_ | refine blkQ_exit ?_ | refine loopQ_norm ?_ | refine loopQ_exit ?_ | refine loopQ_ret ?_ | refine endQ_ret ?_ | refine endQ_norm ?_ | refine endE_ret ?_ | refine endE_norm ?_ | refine endI_ret ?_ | refine endI_norm ?_)
      | (with_reducible refine wp_regK fun K hK => ?_
         simp[g1, h, hq, hq2]
         repeat' (with_reducible first | refine hK _ ?_ | (refine psel ?_ ?_ <;> (intro hc; (try rw [Decidable.not_not] at hc); first | (exfalso; omega) | (try simp [hc, g1, h, hq, hq2]))))
         all_goals (clear hK; clear K))
      | (with_reducible refine wp_condE ?_
         refine ⟨_, rfl, ?_, ?_⟩ <;> (intro hc; (try simp at hc); (all_goals first | (exfalso; omega) | skip))))
    all_goals first | (simp [pf4, addV, addL, addOk, hA]; done) | (exfalso; omega)

@[simp] theorem t260 (k0 : Bool) (x_Ver : Int) (x_L : List XRef) (r_Buf : Int) (r_Gen : Int) (r_Kind : Int) (r_First : Int) (r_Many : Int) (h : x_L.length ≤ 1048576) : Gw TT 260 [.st [.ro false (di x_Ver), .ro k0 (.sl 5 (x_L.map XRef.e))], .st [.ro false (di r_Buf), .ro false (di r_Gen), .ro false (di r_Kind), .ro false (di r_First), .ro false (di r_Many)]] = some (.tup [.st [.ro false (di (addV x_Ver x_L ⟨r_Buf, r_Gen, r_Kind, r_First, r_Many⟩)), .own (.sl 5 ((addL x_Ver x_L ⟨r_Buf, r_Gen, r_Kind, r_First, r_Many⟩).map XRef.e))], vb (addOk x_Ver x_L ⟨r_Buf, r_Gen, r_Kind, r_First, r_Many⟩)], []) := by
  refine Gw_of (F := pf260) rfl rfl ?_
  show Wp _ pb260 _ _
  unfold pb260
  have g1 := t271g true (IntKind.wrap .i64 (x_Ver + 1)) (x_L ++ [⟨r_Buf, r_Gen, r_Kind, r_First, r_Many⟩]) (by simp; omega)
  simp only [List.map_append, List.map_cons, List.map_nil, XRef.e] at g1
  have hq : x_L.length * 40 ≤ 70368744177664 := by omega
  have hq2 : (x_L.length + 1) * 40 ≤ 70368744177664 := by omega
  cases hA : dirOkB (IntKind.wrap .i64 (x_Ver + 1)) (x_L ++ [⟨r_Buf, r_Gen, r_Kind, r_First, r_Many⟩]) with
  | true =>
    rw [hA] at g1
    repeat' (first
      | with_reducible (first | refine wp_seq ?_ | refine wp_blk ?_ | refine wp_skip ?_ | refine wp_exit ?_ | refine wp_ret ?_ | refine seqQ_norm ?_ | refine seqQ_ret ?_ | refine seqQ_exit ?_ | refine blkQ_norm ?_ | refine blkQ_ret ?_ | refine blkQ_exit ?_ | refine loopQ_norm ?_ | refine loopQ_exit ?_ | refine loopQ_ret ?_ | refine endQ_ret ?_ | refine endQ_norm ?_ | refine endE_ret ?_ | refine endE_norm ?_ | refine endI_ret ?_ | refine endI_norm ?_)
      | (with_reducible refine wp_regK fun K hK => ?_
         simp[g1, h, hq, hq2]
         repeat' (with_reducible first | refine hK _ ?_ | (refine psel ?_ ?_ <;> (intro hc; (try rw [Decidable.not_not] at hc); first | (exfalso; omega) | (try simp [hc, g1, h, hq, hq2]))))
         all_goals (clear hK; clear K))
      | (with_reducible refine wp_condE ?_
         refine ⟨_, rfl, ?_, ?_⟩ <;> (intro hc; (try simp at hc); (all_goals first | (exfalso; omega) | skip))))
    all_goals first | (simp [pf260, addV, addL, addOk, hA]; done) | (exfalso; omega)
  | false =>
    rw [hA] at g1
    repeat' (first
      | with_reducible (first | refine wp_seq ?_ | refine wp_blk ?_ | refine wp_skip ?_ | refine wp_exit ?_ | refine wp_ret ?_ | refine seqQ_norm ?_ | refine seqQ_ret ?_ | refine seqQ_exit ?_ | refine blkQ_norm ?_ | refine blkQ_ret ?_ | refine blkQ_exit ?_ | refine loopQ_norm ?_ | refine loopQ_exit ?_ | refine loopQ_ret ?_ | refine endQ_ret ?_ | refine endQ_norm ?_ | refine endE_ret ?_ | refine endE_norm ?_ | refine endI_ret ?_ | refine endI_norm ?_)
      | (with_reducible refine wp_regK fun K hK => ?_
         simp[g1, h, hq, hq2]
         repeat' (with_reducible first | refine hK _ ?_ | (refine psel ?_ ?_ <;> (intro hc; (try rw [Decidable.not_not] at hc); first | (exfalso; omega) | (try simp [hc, g1, h, hq, hq2]))))
         all_goals (clear hK; clear K))
      | (with_reducible refine wp_condE ?_
         refine ⟨_, rfl, ?_, ?_⟩ <;> (intro hc; (try simp at hc); (all_goals first | (exfalso; omega) | skip))))
    all_goals first | (simp [pf260, addV, addL, addOk, hA]; done) | (exfalso; omega)

structure XCur where
  b : List Int
  i : Nat
  h : Int
  hb : b.length ≤ 1048576

theorem and255 (x : Nat) : 0 ≤ IntKind.wrap .i64 ((x &&& 255 % 2 ^ IntKind.i64.bits : Nat) : Int) ∧ IntKind.wrap .i64 ((x &&& 255 % 2 ^ IntKind.i64.bits : Nat) : Int) ≤ 255 := by
  have h0 : 255 % 2 ^ IntKind.i64.bits = 255 := by decide
  rw [h0]
  have h : x &&& 255 ≤ 255 := Nat.and_le_right
  rw [wrap_i64 (by omega) (by omega)]
  omega

theorem d379_ex (k0 : Bool) (b : List Int) (hb : b.length ≤ 1048576) : ∃ h : Int, Gw TT 379 [.one (.ro k0 (.sl 1 (b.map eb)))] = some (.ptr [.ro k0 (.sl 1 (b.map eb)), .ro false (di 0), .ro false (di h)], []) := by
  suffices h0 : ∃ y, Gw TT 379 [.one (.ro k0 (.sl 1 (b.map eb)))] = some y ∧ ∃ h : Int, y = (.ptr [.ro k0 (.sl 1 (b.map eb)), .ro false (di 0), .ro false (di h)], []) by
    obtain ⟨y, h1, h, rfl⟩ := h0
    exact ⟨h, h1⟩
  refine Gw_ofE (F := pf379) rfl rfl ?_
  show Wp _ pb379 _ _
  unfold pb379
  repeat' (first
    | with_reducible (first | refine wp_seq ?_ | refine wp_blk ?_ | refine wp_skip ?_ | refine wp_exit ?_ | refine wp_ret ?_ | refine seqQ_norm ?_ | refine seqQ_ret ?_ | refine seqQ_exit ?_ | refine blkQ_norm ?_ | refine blkQ_ret ?_ | refine blkQ_exit ?_ | refine loopQ_norm ?_ | refine loopQ_exit ?_ | refine loopQ_ret ?_ | refine endQ_ret ?_ | refine endQ_norm ?_ | refine endE_ret ?_ | refine endE_norm ?_ | refine endI_ret ?_ | refine endI_norm ?_)
    | (with_reducible refine wp_regK fun K hK => ?_
       simp
       repeat' (with_reducible first | refine hK _ ?_ | (refine psel ?_ ?_ <;> (intro hc; (try rw [Decidable.not_not] at hc); first | (exfalso; omega) | (try simp [hc]))))
       all_goals (clear hK; clear K))
    | (with_reducible refine wp_condE ?_
       refine ⟨_, rfl, ?_, ?_⟩ <;> (intro hc; (try simp at hc); (all_goals first | (exfalso; omega) | skip))))
  refine wp_loopI (σ := List Int × List Int × Int) (fun s => [(0, AV.v k0 (D.sl 1 (b.map eb)), none), (3, AV.v false (di s.2.2), none), (4, AV.v false (di ((s.1.length : Nat) : Int)), none)]) (fun s => b = s.1 ++ s.2.1) (fun s => s.2.1.length) ([], b, IntKind.wrap .i64 (154242 + (b.length : Int))) (by simp) rfl ?_
  rintro ⟨pre, rest, a⟩ h1
  simp only at h1
  subst h1
  simp only [List.length_append, List.length_cons] at hb
  rcases rest with _ | ⟨d, rest⟩
  · unfold pl379_0
    repeat' (first
      | with_reducible (first | refine wp_seq ?_ | refine wp_blk ?_ | refine wp_skip ?_ | refine wp_exit ?_ | refine wp_ret ?_ | refine seqQ_norm ?_ | refine seqQ_ret ?_ | refine seqQ_exit ?_ | refine blkQ_norm ?_ | refine blkQ_ret ?_ | refine blkQ_exit ?_ | refine loopQ_norm ?_ | refine loopQ_exit ?_ | refine loopQ_ret ?_ | refine endQ_ret ?_ | refine endQ_norm ?_ | refine endE_ret ?_ | refine endE_norm ?_ | refine endI_ret ?_ | refine endI_norm ?_)
      | (with_reducible refine wp_regK fun K hK => ?_
         simp
         repeat' (with_reducible first | refine hK _ ?_ | (refine psel ?_ ?_ <;> (intro hc; (try rw [Decidable.not_not] at hc); first | (exfalso; omega) | (try simp [hc]))))
         all_goals (clear hK; clear K))
      | (with_reducible refine wp_condE ?_
         refine ⟨_, rfl, ?_, ?_⟩ <;> (intro hc; (try simp at hc); (all_goals first | (exfalso; omega) | skip))))
    all_goals exact ⟨_, by simp [pf379]; rfl, a, by simp⟩
  · unfold pl379_0
    simp only [List.length_cons] at hb
    have hw : IntKind.wrap .i64 ((pre.length : Int) + 1) = (pre.length : Int) + 1 := wrap_i64 (by omega) (by omega)
    repeat' (first
      | with_reducible (first | refine wp_seq ?_ | refine wp_blk ?_ | refine wp_skip ?_ | refine wp_exit ?_ | refine wp_ret ?_ | refine seqQ_norm ?_ | refine seqQ_ret ?_ | refine seqQ_exit ?_ | refine blkQ_norm ?_ | refine blkQ_ret ?_ | refine blkQ_exit ?_ | refine loopQ_norm ?_ | refine loopQ_exit ?_ | refine loopQ_ret ?_ | refine endQ_ret ?_ | refine endQ_norm ?_ | refine endE_ret ?_ | refine endE_norm ?_ | refine endI_ret ?_ | refine endI_norm ?_)
      | (with_reducible refine wp_regK fun K hK => ?_
         simp[hw]
         repeat' (with_reducible first | refine hK _ ?_ | (refine psel ?_ ?_ <;> (intro hc; (try rw [Decidable.not_not] at hc); first | (exfalso; omega) | (try simp [hc, hw]))))
         all_goals (clear hK; clear K))
      | (with_reducible refine wp_condE ?_
         refine ⟨_, rfl, ?_, ?_⟩ <;> (intro hc; (try simp at hc); (all_goals first | (exfalso; omega) | skip))))
    all_goals first | exact ⟨(pre ++ [d], rest, _), by simp; rfl, by simp, by simp⟩ | exact ⟨_, by simp [pf379]; rfl, a, by simp⟩

noncomputable def newC (b : List Int) (hb : b.length ≤ 1048576) : XCur := ⟨b, 0, Classical.choose (d379_ex false b hb), hb⟩

@[simp] theorem t379 (b : List Int) (hb : b.length ≤ 1048576) : Gw TT 379 [.one (.ro false (.sl 1 (b.map eb)))] = some (.ptr [.ro false (.sl 1 ((newC b hb).b.map eb)), .ro false (di ((newC b hb).i : Nat)), .ro false (di (newC b hb).h)], []) := Classical.choose_spec (d379_ex false b hb)

theorem d376_ex (c : XCur)  : ∃ r : (Int) × XCur, Gw TT 376 [.ptr [.ro false (.sl 1 (c.b.map eb)), .ro false (di (c.i : Nat)), .ro false (di c.h)]] = some (vi r.1, [(0, 0, .ro false (.sl 1 (r.2.b.map eb))), (0, 1, .ro false (di (r.2.i : Nat))), (0, 2, .ro false (di r.2.h))]) ∧ (0 ≤ r.1 ∧ r.1 ≤ 255) := by
  suffices h0 : ∃ y, Gw TT 376 [.ptr [.ro false (.sl 1 (c.b.map eb)), .ro false (di (c.i : Nat)), .ro false (di c.h)]] = some y ∧ ∃ r : (Int) × XCur, y = (vi r.1, [(0, 0, .ro false (.sl 1 (r.2.b.map eb))), (0, 1, .ro false (di (r.2.i : Nat))), (0, 2, .ro false (di r.2.h))]) ∧ (0 ≤ r.1 ∧ r.1 ≤ 255) by
    obtain ⟨y, h1, r, rfl, h2⟩ := h0
    exact ⟨r, h1, h2⟩
  refine Gw_ofE (F := pf376) rfl rfl ?_
  show Wp _ pb376 _ _
  unfold pb376
  obtain ⟨b, i, h, hb⟩ := c
  by_cases hi : i < b.length
  · have hw : IntKind.wrap .i64 ((i : Int) + 1) = (i : Int) + 1 := wrap_i64 (by omega) (by omega)
    repeat' (first
      | with_reducible (first | refine wp_seq ?_ | refine wp_blk ?_ | refine wp_skip ?_ | refine wp_exit ?_ | refine wp_ret ?_ | refine seqQ_norm ?_ | refine seqQ_ret ?_ | refine seqQ_exit ?_ | refine blkQ_norm ?_ | refine blkQ_ret ?_ | refine blkQ_exit ?_ | refine loopQ_norm ?_ | refine loopQ_exit ?_ | refine loopQ_ret ?_ | refine endQ_ret ?_ | refine endQ_norm ?_ | refine endE_ret ?_ | refine endE_norm ?_ | refine endI_ret ?_ | refine endI_norm ?_)
      | (with_reducible refine wp_regK fun K hK => ?_
         simp[hi, hw]
         repeat' (with_reducible first | refine hK _ ?_ | (refine psel ?_ ?_ <;> (intro hc; (try rw [Decidable.not_not] at hc); first | (exfalso; omega) | (try simp [hc, hi, hw]))))
         all_goals (clear hK; clear K))
      | (with_reducible refine wp_condE ?_
         refine ⟨_, rfl, ?_, ?_⟩ <;> (intro hc; (try simp at hc); (all_goals first | (exfalso; omega) | skip))))
    all_goals first | (exfalso; omega) | (refine ⟨_, by simp [pf376]; rfl, ?_⟩; exact ⟨(_, ⟨b, i + 1, _, hb⟩), rfl, and255 _⟩)
  · repeat' (first
      | with_reducible (first | refine wp_seq ?_ | refine wp_blk ?_ | refine wp_skip ?_ | refine wp_exit ?_ | refine wp_ret ?_ | refine seqQ_norm ?_ | refine seqQ_ret ?_ | refine seqQ_exit ?_ | refine blkQ_norm ?_ | refine blkQ_ret ?_ | refine blkQ_exit ?_ | refine loopQ_norm ?_ | refine loopQ_exit ?_ | refine loopQ_ret ?_ | refine endQ_ret ?_ | refine endQ_norm ?_ | refine endE_ret ?_ | refine endE_norm ?_ | refine endI_ret ?_ | refine endI_norm ?_)
      | (with_reducible refine wp_regK fun K hK => ?_
         simp[hi]
         repeat' (with_reducible first | refine hK _ ?_ | (refine psel ?_ ?_ <;> (intro hc; (try rw [Decidable.not_not] at hc); first | (exfalso; omega) | (try simp [hc, hi]))))
         all_goals (clear hK; clear K))
      | (with_reducible refine wp_condE ?_
         refine ⟨_, rfl, ?_, ?_⟩ <;> (intro hc; (try simp at hc); (all_goals first | (exfalso; omega) | skip))))
    all_goals first | (exfalso; omega) | (refine ⟨_, by simp [pf376]; rfl, ?_⟩; exact ⟨(_, ⟨b, i, _, hb⟩), rfl, and255 _⟩)

noncomputable def d376 (c : XCur)  : (Int) × XCur := Classical.choose (d376_ex c)

@[simp] theorem t376 (c : XCur)  : Gw TT 376 [.ptr [.ro false (.sl 1 (c.b.map eb)), .ro false (di (c.i : Nat)), .ro false (di c.h)]] = some (vi (d376 c).1, [(0, 0, .ro false (.sl 1 ((d376 c).2.b.map eb))), (0, 1, .ro false (di ((d376 c).2.i : Nat))), (0, 2, .ro false (di (d376 c).2.h))]) := (Classical.choose_spec (d376_ex c)).1

theorem p376 (c : XCur)  : 0 ≤ (d376 c).1 ∧ (d376 c).1 ≤ 255 := (Classical.choose_spec (d376_ex c)).2

theorem tmod_lt {x n : Int} (h0 : 0 ≤ x) (h : 0 < n) : 0 ≤ x.tmod n ∧ x.tmod n < n := by
  rw [Int.tmod_eq_emod_of_nonneg h0]
  exact ⟨Int.emod_nonneg _ (by omega), Int.emod_lt_of_pos _ h⟩

theorem d375_ex (c : XCur) (n : Int) : ∃ r : (Int) × XCur, Gw TT 375 [.ptr [.ro false (.sl 1 (c.b.map eb)), .ro false (di (c.i : Nat)), .ro false (di c.h)], vi n] = some (vi r.1, [(0, 0, .ro false (.sl 1 (r.2.b.map eb))), (0, 1, .ro false (di (r.2.i : Nat))), (0, 2, .ro false (di r.2.h))]) ∧ (0 ≤ r.1 ∧ (0 < n → r.1 < n) ∧ (n ≤ 0 → r.1 = 0)) := by
  suffices h0 : ∃ y, Gw TT 375 [.ptr [.ro false (.sl 1 (c.b.map eb)), .ro false (di (c.i : Nat)), .ro false (di c.h)], vi n] = some y ∧ ∃ r : (Int) × XCur, y = (vi r.1, [(0, 0, .ro false (.sl 1 (r.2.b.map eb))), (0, 1, .ro false (di (r.2.i : Nat))), (0, 2, .ro false (di r.2.h))]) ∧ (0 ≤ r.1 ∧ (0 < n → r.1 < n) ∧ (n ≤ 0 → r.1 = 0)) by
    obtain ⟨y, h1, r, rfl, h2⟩ := h0
    exact ⟨r, h1, h2⟩
  refine Gw_ofE (F := pf375) rfl rfl ?_
  show Wp _ pb375 _ _
  unfold pb375
  by_cases h0 : n ≤ 0
  · repeat' (first
      | with_reducible (first | refine wp_seq ?_ | refine wp_blk ?_ | refine wp_skip ?_ | refine wp_exit ?_ | refine wp_ret ?_ | refine seqQ_norm ?_ | refine seqQ_ret ?_ | refine seqQ_exit ?_ | refine blkQ_norm ?_ | refine blkQ_ret ?_ | refine blkQ_exit ?_ | refine loopQ_norm ?_ | refine loopQ_exit ?_ | refine loopQ_ret ?_ | refine endQ_ret ?_ | refine endQ_norm ?_ | refine endE_ret ?_ | refine endE_norm ?_ | refine endI_ret ?_ | refine endI_norm ?_)
      | (with_reducible refine wp_regK fun K hK => ?_
         simp[h0]
         repeat' (with_reducible first | refine hK _ ?_ | (refine psel ?_ ?_ <;> (intro hc; (try rw [Decidable.not_not] at hc); first | (exfalso; omega) | (try simp [hc, h0]))))
         all_goals (clear hK; clear K))
      | (with_reducible refine wp_condE ?_
         refine ⟨_, rfl, ?_, ?_⟩ <;> (intro hc; (try simp at hc); (all_goals first | (exfalso; omega) | skip))))
    all_goals first | (exfalso; omega) | (refine ⟨_, by simp [pf375]; rfl, ?_⟩; exact ⟨(0, c), rfl, by omega, by omega, fun _ => rfl⟩)
  · have hn : n ≠ 0 := by omega
    by_cases h1 : n ≤ 256
    · have q := p376 c
      have q2 := tmod_lt (n := n) q.1 (by omega)
      repeat' (first
        | with_reducible (first | refine wp_seq ?_ | refine wp_blk ?_ | refine wp_skip ?_ | refine wp_exit ?_ | refine wp_ret ?_ | refine seqQ_norm ?_ | refine seqQ_ret ?_ | refine seqQ_exit ?_ | refine blkQ_norm ?_ | refine blkQ_ret ?_ | refine blkQ_exit ?_ | refine loopQ_norm ?_ | refine loopQ_exit ?_ | refine loopQ_ret ?_ | refine endQ_ret ?_ | refine endQ_norm ?_ | refine endE_ret ?_ | refine endE_norm ?_ | refine endI_ret ?_ | refine endI_norm ?_)
        | (with_reducible refine wp_regK fun K hK => ?_
           simp[h0, h1, hn]
           repeat' (with_reducible first | refine hK _ ?_ | (refine psel ?_ ?_ <;> (intro hc; (try rw [Decidable.not_not] at hc); first | (exfalso; omega) | (try simp [hc, h0, h1, hn]))))
           all_goals (clear hK; clear K))
        | (with_reducible refine wp_condE ?_
           refine ⟨_, rfl, ?_, ?_⟩ <;> (intro hc; (try simp at hc); (all_goals first | (exfalso; omega) | skip))))
      all_goals first | (exfalso; omega) | (refine ⟨_, by simp [pf375]; rfl, ?_⟩; exact ⟨(_, (d376 c).2), rfl, q2.1, fun _ => q2.2, fun h => absurd h h0⟩)
    · have q1 := p376 c
      have q2 := p376 (d376 c).2
      have q3 := p376 (d376 (d376 c).2).2
      have w1 : IntKind.wrap .i64 ((d376 c).1 * 65536) = (d376 c).1 * 65536 := wrap_i64 (by omega) (by omega)
      have w2 : IntKind.wrap .i64 ((d376 (d376 c).2).1 * 256) = (d376 (d376 c).2).1 * 256 := wrap_i64 (by omega) (by omega)
      have w3 : IntKind.wrap .i64 ((d376 c).1 * 65536 + (d376 (d376 c).2).1 * 256) = (d376 c).1 * 65536 + (d376 (d376 c).2).1 * 256 := wrap_i64 (by omega) (by omega)
      have w4 : IntKind.wrap .i64 ((d376 c).1 * 65536 + (d376 (d376 c).2).1 * 256 + (d376 (d376 (d376 c).2).2).1) = (d376 c).1 * 65536 + (d376 (d376 c).2).1 * 256 + (d376 (d376 (d376 c).2).2).1 := wrap_i64 (by omega) (by omega)
      have q4 := tmod_lt (x := (d376 c).1 * 65536 + (d376 (d376 c).2).1 * 256 + (d376 (d376 (d376 c).2).2).1) (n := n) (by omega) (by omega)
      repeat' (first
        | with_reducible (first | refine wp_seq ?_ | refine wp_blk ?_ | refine wp_skip ?_ | refine wp_exit ?_ | refine wp_ret ?_ | refine seqQ_norm ?_ | refine seqQ_ret ?_ | refine seqQ_exit ?_ | refine blkQ_norm ?_ | refine blkQ_ret ?_ | refine blkQ_exit ?_ | refine loopQ_norm ?_ | refine loopQ_exit ?_ | refine loopQ_ret ?_ | refine endQ_ret ?_ | refine endQ_norm ?_ | refine endE_ret ?_ | refine endE_norm ?_ | refine endI_ret ?_ | refine endI_norm ?_)
        | (with_reducible refine wp_regK fun K hK => ?_
           simp[h0, h1, hn, w1, w2, w3, w4]
           repeat' (with_reducible first | refine hK _ ?_ | (refine psel ?_ ?_ <;> (intro hc; (try rw [Decidable.not_not] at hc); first | (exfalso; omega) | (try simp [hc, h0, h1, hn, w1, w2, w3, w4]))))
           all_goals (clear hK; clear K))
        | (with_reducible refine wp_condE ?_
           refine ⟨_, rfl, ?_, ?_⟩ <;> (intro hc; (try simp at hc); (all_goals first | (exfalso; omega) | skip))))
      all_goals first | (exfalso; omega) | (refine ⟨_, by simp [pf375]; rfl, ?_⟩; exact ⟨(_, (d376 (d376 (d376 c).2).2).2), rfl, q4.1, fun _ => q4.2, fun h => absurd h h0⟩)

noncomputable def d375 (c : XCur) (n : Int) : (Int) × XCur := Classical.choose (d375_ex c n)

@[simp] theorem t375 (c : XCur) (n : Int) : Gw TT 375 [.ptr [.ro false (.sl 1 (c.b.map eb)), .ro false (di (c.i : Nat)), .ro false (di c.h)], vi n] = some (vi (d375 c n).1, [(0, 0, .ro false (.sl 1 ((d375 c n).2.b.map eb))), (0, 1, .ro false (di ((d375 c n).2.i : Nat))), (0, 2, .ro false (di (d375 c n).2.h))]) := (Classical.choose_spec (d375_ex c n)).1

theorem p375 (c : XCur) (n : Int) : 0 ≤ (d375 c n).1 ∧ (0 < n → (d375 c n).1 < n) ∧ (n ≤ 0 → (d375 c n).1 = 0) := (Classical.choose_spec (d375_ex c n)).2

theorem d382_ex (c : XCur) (n : Int) : ∃ r : (Bool) × XCur, Gw TT 382 [.ptr [.ro false (.sl 1 (c.b.map eb)), .ro false (di (c.i : Nat)), .ro false (di c.h)], vi n] = some (vb r.1, [(0, 0, .ro false (.sl 1 (r.2.b.map eb))), (0, 1, .ro false (di (r.2.i : Nat))), (0, 2, .ro false (di r.2.h))]) ∧ (True) := by
  suffices h0 : ∃ y, Gw TT 382 [.ptr [.ro false (.sl 1 (c.b.map eb)), .ro false (di (c.i : Nat)), .ro false (di c.h)], vi n] = some y ∧ ∃ r : (Bool) × XCur, y = (vb r.1, [(0, 0, .ro false (.sl 1 (r.2.b.map eb))), (0, 1, .ro false (di (r.2.i : Nat))), (0, 2, .ro false (di r.2.h))]) ∧ (True) by
    obtain ⟨y, h1, r, rfl, h2⟩ := h0
    exact ⟨r, h1, h2⟩
  refine Gw_ofE (F := pf382) rfl rfl ?_
  show Wp _ pb382 _ _
  unfold pb382
  repeat' (first
    | with_reducible (first | refine wp_seq ?_ | refine wp_blk ?_ | refine wp_skip ?_ | refine wp_exit ?_ | refine wp_ret ?_ | refine seqQ_norm ?_ | refine seqQ_ret ?_ | refine seqQ_exit ?_ | refine blkQ_norm ?_ | refine blkQ_ret ?_ | refine blkQ_exit ?_ | refine loopQ_norm ?_ | refine loopQ_exit ?_ | refine loopQ_ret ?_ | refine endQ_ret ?_ | refine endQ_norm ?_ | refine endE_ret ?_ | refine endE_norm ?_ | refine endI_ret ?_ | refine endI_norm ?_)
    | (with_reducible refine wp_regK fun K hK => ?_
       simp
       repeat' (with_reducible first | refine hK _ ?_ | (refine psel ?_ ?_ <;> (intro hc; (try rw [Decidable.not_not] at hc); first | (exfalso; omega) | (try simp [hc]))))
       all_goals (clear hK; clear K))
    | (with_reducible refine wp_condE ?_
       refine ⟨_, rfl, ?_, ?_⟩ <;> (intro hc; (try simp at hc); (all_goals first | (exfalso; omega) | skip))))
  all_goals (refine ⟨_, by simp [pf382]; rfl, ?_⟩; exact ⟨((d375 c n).1 == 0, (d375 c n).2), rfl, trivial⟩)

noncomputable def d382 (c : XCur) (n : Int) : (Bool) × XCur := Classical.choose (d382_ex c n)

@[simp] theorem t382 (c : XCur) (n : Int) : Gw TT 382 [.ptr [.ro false (.sl 1 (c.b.map eb)), .ro false (di (c.i : Nat)), .ro false (di c.h)], vi n] = some (vb (d382 c n).1, [(0, 0, .ro false (.sl 1 ((d382 c n).2.b.map eb))), (0, 1, .ro false (di ((d382 c n).2.i : Nat))), (0, 2, .ro false (di (d382 c n).2.h))]) := (Classical.choose_spec (d382_ex c n)).1

theorem d378_ex (c : XCur) (k0 : Bool) (L : List (List D)) (h0 : 0 < L.length) (h1 : L.length ≤ 256) (hL : ∀ e ∈ L, ∃ n : Int, e = [di n]) : ∃ r : (Int) × XCur, Gw TT 378 [.ptr [.ro false (.sl 1 (c.b.map eb)), .ro false (di (c.i : Nat)), .ro false (di c.h)], .one (.ro k0 (.sl 1 L))] = some (vi r.1, [(0, 0, .ro false (.sl 1 (r.2.b.map eb))), (0, 1, .ro false (di (r.2.i : Nat))), (0, 2, .ro false (di r.2.h))]) ∧ ([di r.1] ∈ L) := by
  suffices h0 : ∃ y, Gw TT 378 [.ptr [.ro false (.sl 1 (c.b.map eb)), .ro false (di (c.i : Nat)), .ro false (di c.h)], .one (.ro k0 (.sl 1 L))] = some y ∧ ∃ r : (Int) × XCur, y = (vi r.1, [(0, 0, .ro false (.sl 1 (r.2.b.map eb))), (0, 1, .ro false (di (r.2.i : Nat))), (0, 2, .ro false (di r.2.h))]) ∧ ([di r.1] ∈ L) by
    obtain ⟨y, h1, r, rfl, h2⟩ := h0
    exact ⟨r, h1, h2⟩
  refine Gw_ofE (F := pf378) rfl rfl ?_
  show Wp _ pb378 _ _
  unfold pb378
  obtain ⟨q1, q2, q3⟩ := p375 c (L.length : Int)
  have q4 := q2 (by omega)
  have hlt : (d375 c (L.length : Int)).1.toNat < L.length := by omega
  obtain ⟨x, hx⟩ := hL _ (List.getElem_mem hlt)
  have hx2 : L[(d375 c (L.length : Int)).1.toNat]? = some [di x] := by rw [List.getElem?_eq_getElem hlt, hx]
  repeat' (first
    | with_reducible (first | refine wp_seq ?_ | refine wp_blk ?_ | refine wp_skip ?_ | refine wp_exit ?_ | refine wp_ret ?_ | refine seqQ_norm ?_ | refine seqQ_ret ?_ | refine seqQ_exit ?_ | refine blkQ_norm ?_ | refine blkQ_ret ?_ | refine blkQ_exit ?_ | refine loopQ_norm ?_ | refine loopQ_exit ?_ | refine loopQ_ret ?_ | refine endQ_ret ?_ | refine endQ_norm ?_ | refine endE_ret ?_ | refine endE_norm ?_ | refine endI_ret ?_ | refine endI_norm ?_)
    | (with_reducible refine wp_regK fun K hK => ?_
       simp[q1, q4, hx2, hx]
       repeat' (with_reducible first | refine hK _ ?_ | (refine psel ?_ ?_ <;> (intro hc; (try rw [Decidable.not_not] at hc); first | (exfalso; omega) | (try simp [hc, q1, q4, hx2, hx]))))
       all_goals (clear hK; clear K))
    | (with_reducible refine wp_condE ?_
       refine ⟨_, rfl, ?_, ?_⟩ <;> (intro hc; (try simp at hc); (all_goals first | (exfalso; omega) | skip))))
  all_goals first | (exfalso; omega) | (refine ⟨_, by simp [pf378]; rfl, ?_⟩; exact ⟨(x, (d375 c (L.length : Int)).2), rfl, hx ▸ List.getElem_mem hlt⟩)

noncomputable def d378 (c : XCur) (k0 : Bool) (L : List (List D)) (h0 : 0 < L.length) (h1 : L.length ≤ 256) (hL : ∀ e ∈ L, ∃ n : Int, e = [di n]) : (Int) × XCur := Classical.choose (d378_ex c k0 L h0 h1 hL)

theorem t378 (c : XCur) (k0 : Bool) (L : List (List D)) (h0 : 0 < L.length) (h1 : L.length ≤ 256) (hL : ∀ e ∈ L, ∃ n : Int, e = [di n]) : Gw TT 378 [.ptr [.ro false (.sl 1 (c.b.map eb)), .ro false (di (c.i : Nat)), .ro false (di c.h)], .one (.ro k0 (.sl 1 L))] = some (vi (d378 c k0 L h0 h1 hL).1, [(0, 0, .ro false (.sl 1 ((d378 c k0 L h0 h1 hL).2.b.map eb))), (0, 1, .ro false (di ((d378 c k0 L h0 h1 hL).2.i : Nat))), (0, 2, .ro false (di (d378 c k0 L h0 h1 hL).2.h))]) := (Classical.choose_spec (d378_ex c k0 L h0 h1 hL)).1

@[simp] theorem t141 (k0 : Bool) (b : List Int) (h : b.length ≤ 9223372036854775807) : Gw TT 141 [.one (.ro k0 (.sl 1 (b.map eb)))] = some (vb (decide (1048576 < (b.length : Int))), []) := by
  refine Gw_of (F := pf141) rfl rfl ?_
  show Wp _ pb141 _ _
  unfold pb141
  repeat' (first
    | with_reducible (first | refine wp_seq ?_ | refine wp_blk ?_ | refine wp_skip ?_ | refine wp_exit ?_ | refine wp_ret ?_ | refine seqQ_norm ?_ | refine seqQ_ret ?_ | refine seqQ_exit ?_ | refine blkQ_norm ?_ | refine blkQ_ret ?_ | refine blkQ_exit ?_ | refine loopQ_norm ?_ | refine loopQ_exit ?_ | refine loopQ_ret ?_ | refine endQ_ret ?_ | refine endQ_norm ?_ | refine endE_ret ?_ | refine endE_norm ?_ | refine endI_ret ?_ | refine endI_norm ?_)
    | (with_reducible refine wp_regK fun K hK => ?_
       simp
       repeat' (with_reducible first | refine hK _ ?_ | (refine psel ?_ ?_ <;> (intro hc; (try rw [Decidable.not_not] at hc); first | (exfalso; omega) | (try simp [hc]))))
       all_goals (clear hK; clear K))
    | (with_reducible refine wp_condE ?_
       refine ⟨_, rfl, ?_, ?_⟩ <;> (intro hc; (try simp at hc); (all_goals first | (exfalso; omega) | skip))))
  all_goals simp [pf141]

theorem d369_ex (c : XCur)  : ∃ r : (XDir) × XCur, Gw TT 369 [.ptr [.ro false (.sl 1 (c.b.map eb)), .ro false (di (c.i : Nat)), .ro false (di c.h)]] = some (.st [.ro false (di r.1.Ver), .own (.sl 5 (r.1.L.map XRef.e))], [(0, 0, .ro false (.sl 1 (r.2.b.map eb))), (0, 1, .ro false (di (r.2.i : Nat))), (0, 2, .ro false (di r.2.h))]) ∧ (r.1.L.length ≤ 4) := by
  suffices h0 : ∃ y, Gw TT 369 [.ptr [.ro false (.sl 1 (c.b.map eb)), .ro false (di (c.i : Nat)), .ro false (di c.h)]] = some y ∧ ∃ r : (XDir) × XCur, y = (.st [.ro false (di r.1.Ver), .own (.sl 5 (r.1.L.map XRef.e))], [(0, 0, .ro false (.sl 1 (r.2.b.map eb))), (0, 1, .ro false (di (r.2.i : Nat))), (0, 2, .ro false (di r.2.h))]) ∧ (r.1.L.length ≤ 4) by
    obtain ⟨y, h1, r, rfl, h2⟩ := h0
    exact ⟨r, h1, h2⟩
  refine Gw_ofE (F := pf369) rfl rfl ?_
  show Wp _ pb369 _ _
  unfold pb369
  have q2 := p375 (d375 c 4).2 5
  have hn : ((d375 (d375 c 4).2 5).1.toNat : Int) = (d375 (d375 c 4).2 5).1 := Int.toNat_of_nonneg q2.1
  have q4 := q2.2.1 (by omega)
  repeat' (first
    | with_reducible (first | refine wp_seq ?_ | refine wp_blk ?_ | refine wp_skip ?_ | refine wp_exit ?_ | refine wp_ret ?_ | refine seqQ_norm ?_ | refine seqQ_ret ?_ | refine seqQ_exit ?_ | refine blkQ_norm ?_ | refine blkQ_ret ?_ | refine blkQ_exit ?_ | refine loopQ_norm ?_ | refine loopQ_exit ?_ | refine loopQ_ret ?_ | refine endQ_ret ?_ | refine endQ_norm ?_ | refine endE_ret ?_ | refine endE_norm ?_ | refine endI_ret ?_ | refine endI_norm ?_)
    | (with_reducible refine wp_regK fun K hK => ?_
       simp
       repeat' (with_reducible first | refine hK _ ?_ | (refine psel ?_ ?_ <;> (intro hc; (try rw [Decidable.not_not] at hc); first | (exfalso; omega) | (try simp [hc]))))
       all_goals (clear hK; clear K))
    | (with_reducible refine wp_condE ?_
       refine ⟨_, rfl, ?_, ?_⟩ <;> (intro hc; (try simp at hc); (all_goals first | (exfalso; omega) | skip))))
  refine wp_loopI (σ := Nat × List XRef × Int × XCur) (fun s => [(0, AV.bx 0 0, some (Rt.bx [.ro false (.sl 1 (s.2.2.2.b.map eb)), .ro false (di (s.2.2.2.i : Nat)), .ro false (di s.2.2.2.h)])), (2, AV.bx 2 0, some (Rt.bx [.ro false (di 0), .own (.sl 5 [])])), (3, AV.bx 3 0, some (Rt.bx [.ro false (di (d375 c 4).1), .own (.sl 5 (s.2.1.map XRef.e))])), (4, AV.v false (di s.2.2.1), none), (5, AV.v false (di (s.1 : Nat)), none)]) (fun s => s.1 + s.2.1.length ≤ 4) (fun s => s.1) ((d375 (d375 c 4).2 5).1.toNat, [], 0, (d375 (d375 c 4).2 5).2) (by simp [hn]) (by simp only [List.length_nil]; omega) ?_
  rintro ⟨n, acc, e, c1⟩ h1
  simp only at h1
  rcases n with _ | n
  · unfold pl369_0
    repeat' (first
      | with_reducible (first | refine wp_seq ?_ | refine wp_blk ?_ | refine wp_skip ?_ | refine wp_exit ?_ | refine wp_ret ?_ | refine seqQ_norm ?_ | refine seqQ_ret ?_ | refine seqQ_exit ?_ | refine blkQ_norm ?_ | refine blkQ_ret ?_ | refine blkQ_exit ?_ | refine loopQ_norm ?_ | refine loopQ_exit ?_ | refine loopQ_ret ?_ | refine endQ_ret ?_ | refine endQ_norm ?_ | refine endE_ret ?_ | refine endE_norm ?_ | refine endI_ret ?_ | refine endI_norm ?_)
      | (with_reducible refine wp_regK fun K hK => ?_
         simp
         repeat' (with_reducible first | refine hK _ ?_ | (refine psel ?_ ?_ <;> (intro hc; (try rw [Decidable.not_not] at hc); first | (exfalso; omega) | (try simp [hc]))))
         all_goals (clear hK; clear K))
      | (with_reducible refine wp_condE ?_
         refine ⟨_, rfl, ?_, ?_⟩ <;> (intro hc; (try simp at hc); (all_goals first | (exfalso; omega) | skip))))
    all_goals first | (exfalso; omega) | (refine ⟨_, by simp [pf369]; rfl, ?_⟩; exact ⟨((⟨(d375 c 4).1, acc⟩ : XDir), c1), rfl, by simp only; omega⟩)
  · unfold pl369_0
    have hwn : IntKind.wrap .i64 (n : Int) = (n : Int) := wrap_i64 (by omega) (by omega)
    have hq1 : (acc.length + 1) * 40 ≤ 70368744177664 := by omega
    repeat' (first
      | with_reducible (first | refine wp_seq ?_ | refine wp_blk ?_ | refine wp_skip ?_ | refine wp_exit ?_ | refine wp_ret ?_ | refine seqQ_norm ?_ | refine seqQ_ret ?_ | refine seqQ_exit ?_ | refine blkQ_norm ?_ | refine blkQ_ret ?_ | refine blkQ_exit ?_ | refine loopQ_norm ?_ | refine loopQ_exit ?_ | refine loopQ_ret ?_ | refine endQ_ret ?_ | refine endQ_norm ?_ | refine endE_ret ?_ | refine endE_norm ?_ | refine endI_ret ?_ | refine endI_norm ?_)
      | (with_reducible refine wp_regK fun K hK => ?_
         simp[hwn, hq1]
         repeat' (with_reducible first | refine hK _ ?_ | (refine psel ?_ ?_ <;> (intro hc; (try rw [Decidable.not_not] at hc); first | (exfalso; omega) | (try simp [hc, hwn, hq1]))))
         all_goals (clear hK; clear K))
      | (with_reducible refine wp_condE ?_
         refine ⟨_, rfl, ?_, ?_⟩ <;> (intro hc; (try simp at hc); (all_goals first | (exfalso; omega) | skip))))
    all_goals first | (exfalso; omega) | (exact ⟨(n, acc ++ [⟨(acc.length : Int), (d375 c1 3).1, IntKind.wrap .i64 (1 + (d375 (d375 c1 3).2 2).1), e, IntKind.wrap .i64 (1 + (d375 (d375 (d375 c1 3).2 2).2 4).1)⟩], IntKind.wrap .i64 (e + IntKind.wrap .i64 (1 + (d375 (d375 (d375 c1 3).2 2).2 4).1)), (d375 (d375 (d375 c1 3).2 2).2 4).2), by simp [hwn], by simp only [List.length_append, List.length_cons, List.length_nil]; omega, by simp⟩) | skip

noncomputable def d369 (c : XCur)  : (XDir) × XCur := Classical.choose (d369_ex c)

@[simp] theorem t369 (c : XCur)  : Gw TT 369 [.ptr [.ro false (.sl 1 (c.b.map eb)), .ro false (di (c.i : Nat)), .ro false (di c.h)]] = some (.st [.ro false (di (d369 c).1.Ver), .own (.sl 5 ((d369 c).1.L.map XRef.e))], [(0, 0, .ro false (.sl 1 ((d369 c).2.b.map eb))), (0, 1, .ro false (di ((d369 c).2.i : Nat))), (0, 2, .ro false (di (d369 c).2.h))]) := (Classical.choose_spec (d369_ex c)).1

theorem p369 (c : XCur)  : (d369 c).1.L.length ≤ 4 := (Classical.choose_spec (d369_ex c)).2

theorem d367_ex (c : XCur)  : ∃ r : (XDir) × XCur, Gw TT 367 [.ptr [.ro false (.sl 1 (c.b.map eb)), .ro false (di (c.i : Nat)), .ro false (di c.h)]] = some (.st [.ro false (di r.1.Ver), .own (.sl 5 (r.1.L.map XRef.e))], [(0, 0, .ro false (.sl 1 (r.2.b.map eb))), (0, 1, .ro false (di (r.2.i : Nat))), (0, 2, .ro false (di r.2.h))]) ∧ (r.1.L.length ≤ 4) := by
  suffices h0 : ∃ y, Gw TT 367 [.ptr [.ro false (.sl 1 (c.b.map eb)), .ro false (di (c.i : Nat)), .ro false (di c.h)]] = some y ∧ ∃ r : (XDir) × XCur, y = (.st [.ro false (di r.1.Ver), .own (.sl 5 (r.1.L.map XRef.e))], [(0, 0, .ro false (.sl 1 (r.2.b.map eb))), (0, 1, .ro false (di (r.2.i : Nat))), (0, 2, .ro false (di r.2.h))]) ∧ (r.1.L.length ≤ 4) by
    obtain ⟨y, h1, r, rfl, h2⟩ := h0
    exact ⟨r, h1, h2⟩
  refine Gw_ofE (F := pf367) rfl rfl ?_
  show Wp _ pb367 _ _
  unfold pb367
  have q := p369 c
  obtain ⟨⟨⟨ver, l⟩, c1⟩, hd⟩ : ∃ r, d369 c = r := ⟨_, rfl⟩
  rw [hd] at q
  simp only at q
  have q1 := p375 c1 (l.length : Int)
  obtain ⟨⟨kk, c2⟩, hk⟩ : ∃ r, d375 c1 (l.length : Int) = r := ⟨_, rfl⟩
  rw [hk] at q1
  simp only at q1
  obtain ⟨⟨v, c3⟩, hv⟩ : ∃ r, d375 c2 12 = r := ⟨_, rfl⟩
  obtain ⟨r1, g1⟩ : ∃ r : Int × XCur, Gw TT 378 [.ptr [.ro false (.sl 1 (c3.b.map eb)), .ro false (di (c3.i : Nat)), .ro false (di c3.h)], .one (.ro true (.sl 1 [[di 0], [di (-1)], [di 1], [di 1000000000], [di 1000000001]]))] = some (vi r.1, [(0, 0, .ro false (.sl 1 (r.2.b.map eb))), (0, 1, .ro false (di (r.2.i : Nat))), (0, 2, .ro false (di r.2.h))]) := ⟨_, t378 c3 true [[di 0], [di (-1)], [di 1], [di 1000000000], [di 1000000001]] (by simp) (by simp) (by simp)⟩
  obtain ⟨r2, g2⟩ : ∃ r : Int × XCur, Gw TT 378 [.ptr [.ro false (.sl 1 (c3.b.map eb)), .ro false (di (c3.i : Nat)), .ro false (di c3.h)], .one (.ro true (.sl 1 [[di (-1)], [di 0], [di 1]]))] = some (vi r.1, [(0, 0, .ro false (.sl 1 (r.2.b.map eb))), (0, 1, .ro false (di (r.2.i : Nat))), (0, 2, .ro false (di r.2.h))]) := ⟨_, t378 c3 true [[di (-1)], [di 0], [di 1]] (by simp) (by simp) (by simp)⟩
  by_cases hl : l.length = 0
  · obtain rfl : l = [] := List.length_eq_zero_iff.1 hl
    repeat' (first
      | with_reducible (first | refine wp_seq ?_ | refine wp_blk ?_ | refine wp_skip ?_ | refine wp_exit ?_ | refine wp_ret ?_ | refine seqQ_norm ?_ | refine seqQ_ret ?_ | refine seqQ_exit ?_ | refine blkQ_norm ?_ | refine blkQ_ret ?_ | refine blkQ_exit ?_ | refine loopQ_norm ?_ | refine loopQ_exit ?_ | refine loopQ_ret ?_ | refine endQ_ret ?_ | refine endQ_norm ?_ | refine endE_ret ?_ | refine endE_norm ?_ | refine endI_ret ?_ | refine endI_norm ?_)
      | (with_reducible refine wp_regK fun K hK => ?_
         simp[hd]
         repeat' (with_reducible first | refine hK _ ?_ | (refine psel ?_ ?_ <;> (intro hc; (try rw [Decidable.not_not] at hc); first | (exfalso; omega) | (try simp [hc, hd]))))
         all_goals (clear hK; clear K))
      | (with_reducible refine wp_condE ?_
         refine ⟨_, rfl, ?_, ?_⟩ <;> (intro hc; (try simp at hc); (all_goals first | (exfalso; omega) | skip))))
    all_goals first | (exfalso; omega) | (refine ⟨_, by simp [pf367]; rfl, ?_⟩; exact ⟨((⟨ver, []⟩ : XDir), c1), rfl, by simp⟩)
  · have q2 := q1.2.1 (by omega)
    have q3 := q1.1
    obtain ⟨x, hx⟩ : ∃ x, l[kk.toNat]? = some x := ⟨_, List.getElem?_eq_getElem (by omega)⟩
    obtain ⟨hlt, he⟩ := List.getElem?_eq_some_iff.1 hx
    repeat' (first
      | with_reducible (first | refine wp_seq ?_ | refine wp_blk ?_ | refine wp_skip ?_ | refine wp_exit ?_ | refine wp_ret ?_ | refine seqQ_norm ?_ | refine seqQ_ret ?_ | refine seqQ_exit ?_ | refine blkQ_norm ?_ | refine blkQ_ret ?_ | refine blkQ_exit ?_ | refine loopQ_norm ?_ | refine loopQ_exit ?_ | refine loopQ_ret ?_ | refine endQ_ret ?_ | refine endQ_norm ?_ | refine endE_ret ?_ | refine endE_norm ?_ | refine endI_ret ?_ | refine endI_norm ?_)
      | (with_reducible refine wp_regK fun K hK => ?_
         simp[hd, hk, hv, g1, g2, hl, q2, q3, hlt, hx, he]
         repeat' (with_reducible first | refine hK _ ?_ | (refine psel ?_ ?_ <;> (intro hc; (try rw [Decidable.not_not] at hc); first | (exfalso; omega) | (try simp [hc, hd, hk, hv, g1, g2, hl, q2, q3, hlt, hx, he]))))
         all_goals (clear hK; clear K))
      | (with_reducible refine wp_condE ?_
         refine ⟨_, rfl, ?_, ?_⟩ <;> (intro hc; (try simp at hc); (all_goals first | (exfalso; omega) | skip))))
    all_goals first | (exfalso; omega) | (refine ⟨_, by simp [pf367]; rfl, ?_⟩; refine ⟨((⟨(-1), l⟩ : XDir), c3), ?_, ?_⟩; (focus (first | (simp [*]; done) | (simp; done))); (focus (first | (simp; omega) | (simp; done)))) | (refine ⟨_, by simp [pf367]; rfl, ?_⟩; refine ⟨((⟨ver, l.set kk.toNat ⟨x.Buf, x.Gen, x.Kind, IntKind.wrap .i64 (x.First + 1), x.Many⟩⟩ : XDir), c3), ?_, ?_⟩; (focus (first | (simp [*]; done) | (simp; done))); (focus (first | (simp; omega) | (simp; done)))) | (refine ⟨_, by simp [pf367]; rfl, ?_⟩; refine ⟨((⟨ver, l.set kk.toNat ⟨x.Buf, x.Gen, x.Kind, x.First, r1.1⟩⟩ : XDir), r1.2), ?_, ?_⟩; (focus (first | (simp [*]; done) | (simp; done))); (focus (first | (simp; omega) | (simp; done)))) | (refine ⟨_, by simp [pf367]; rfl, ?_⟩; refine ⟨((⟨ver, l.set kk.toNat ⟨r2.1, x.Gen, x.Kind, x.First, x.Many⟩⟩ : XDir), r2.2), ?_, ?_⟩; (focus (first | (simp [*]; done) | (simp; done))); (focus (first | (simp; omega) | (simp; done)))) | (refine ⟨_, by simp [pf367]; rfl, ?_⟩; refine ⟨((⟨ver, l.set kk.toNat ⟨x.Buf, x.Gen, (d375 c3 4).1, x.First, x.Many⟩⟩ : XDir), (d375 c3 4).2), ?_, ?_⟩; (focus (first | (simp [*]; done) | (simp; done))); (focus (first | (simp; omega) | (simp; done)))) | (refine ⟨_, by simp [pf367]; rfl, ?_⟩; refine ⟨((⟨ver, l⟩ : XDir), c3), ?_, ?_⟩; (focus (first | (simp [*]; done) | (simp; done))); (focus (first | (simp; omega) | (simp; done)))) | (exfalso; simp_all; done) | skip

noncomputable def d367 (c : XCur)  : (XDir) × XCur := Classical.choose (d367_ex c)

@[simp] theorem t367 (c : XCur)  : Gw TT 367 [.ptr [.ro false (.sl 1 (c.b.map eb)), .ro false (di (c.i : Nat)), .ro false (di c.h)]] = some (.st [.ro false (di (d367 c).1.Ver), .own (.sl 5 ((d367 c).1.L.map XRef.e))], [(0, 0, .ro false (.sl 1 ((d367 c).2.b.map eb))), (0, 1, .ro false (di ((d367 c).2.i : Nat))), (0, 2, .ro false (di (d367 c).2.h))]) := (Classical.choose_spec (d367_ex c)).1

theorem p367 (c : XCur)  : (d367 c).1.L.length ≤ 4 := (Classical.choose_spec (d367_ex c)).2

@[simp] theorem t206 (k0 k1 : Bool) (l : List XRef) (h : l.length ≤ 1048576) : Gw TT 206 [.one (.ro k0 (.sl 5 (l.map XRef.e))), .one (.ro k1 (.sl 5 (l.map XRef.e)))] = some (vb true, []) := by
  refine Gw_of (F := pf206) rfl rfl ?_
  show Wp _ pb206 _ _
  unfold pb206
  repeat' (first
    | with_reducible (first | refine wp_seq ?_ | refine wp_blk ?_ | refine wp_skip ?_ | refine wp_exit ?_ | refine wp_ret ?_ | refine seqQ_norm ?_ | refine seqQ_ret ?_ | refine seqQ_exit ?_ | refine blkQ_norm ?_ | refine blkQ_ret ?_ | refine blkQ_exit ?_ | refine loopQ_norm ?_ | refine loopQ_exit ?_ | refine loopQ_ret ?_ | refine endQ_ret ?_ | refine endQ_norm ?_ | refine endE_ret ?_ | refine endE_norm ?_ | refine endI_ret ?_ | refine endI_norm ?_)
    | (with_reducible refine wp_regK fun K hK => ?_
       simp
       repeat' (with_reducible first | refine hK _ ?_ | (refine psel ?_ ?_ <;> (intro hc; (try rw [Decidable.not_not] at hc); first | (exfalso; omega) | (try simp [hc]))))
       all_goals (clear hK; clear K))
    | (with_reducible refine wp_condE ?_
       refine ⟨_, rfl, ?_, ?_⟩ <;> (intro hc; (try simp at hc); (all_goals first | (exfalso; omega) | skip))))
  refine wp_loopI (σ := List XRef × List XRef) (fun s => [(0, AV.v k0 (D.sl 5 (l.map XRef.e)), none), (1, AV.v k1 (D.sl 5 (l.map XRef.e)), none), (5, AV.v false (di ((s.1.length : Nat) : Int)), none)]) (fun s => l = s.1 ++ s.2) (fun s => s.2.length) ([], l) (by simp) rfl ?_
  rintro ⟨pre, rest⟩ h1
  simp only at h1
  subst h1
  simp only [List.length_append, List.length_cons] at h
  rcases rest with _ | ⟨d, rest⟩
  · unfold pl206_0
    repeat' (first
      | with_reducible (first | refine wp_seq ?_ | refine wp_blk ?_ | refine wp_skip ?_ | refine wp_exit ?_ | refine wp_ret ?_ | refine seqQ_norm ?_ | refine seqQ_ret ?_ | refine seqQ_exit ?_ | refine blkQ_norm ?_ | refine blkQ_ret ?_ | refine blkQ_exit ?_ | refine loopQ_norm ?_ | refine loopQ_exit ?_ | refine loopQ_ret ?_ | refine endQ_ret ?_ | refine endQ_norm ?_ | refine endE_ret ?_ | refine endE_norm ?_ | refine endI_ret ?_ | refine endI_norm ?_)
      | (with_reducible refine wp_regK fun K hK => ?_
         simp
         repeat' (with_reducible first | refine hK _ ?_ | (refine psel ?_ ?_ <;> (intro hc; (try rw [Decidable.not_not] at hc); first | (exfalso; omega) | (try simp [hc]))))
         all_goals (clear hK; clear K))
      | (with_reducible refine wp_condE ?_
         refine ⟨_, rfl, ?_, ?_⟩ <;> (intro hc; (try simp at hc); (all_goals first | (exfalso; omega) | skip))))
    all_goals first | (simp [pf206]; done) | (exfalso; omega)
  · unfold pl206_0
    simp only [List.length_cons] at h
    have hw : IntKind.wrap .i64 ((pre.length : Int) + 1) = (pre.length : Int) + 1 := wrap_i64 (by omega) (by omega)
    repeat' (first
      | with_reducible (first | refine wp_seq ?_ | refine wp_blk ?_ | refine wp_skip ?_ | refine wp_exit ?_ | refine wp_ret ?_ | refine seqQ_norm ?_ | refine seqQ_ret ?_ | refine seqQ_exit ?_ | refine blkQ_norm ?_ | refine blkQ_ret ?_ | refine blkQ_exit ?_ | refine loopQ_norm ?_ | refine loopQ_exit ?_ | refine loopQ_ret ?_ | refine endQ_ret ?_ | refine endQ_norm ?_ | refine endE_ret ?_ | refine endE_norm ?_ | refine endI_ret ?_ | refine endI_norm ?_)
      | (with_reducible refine wp_regK fun K hK => ?_
         simp[hw]
         repeat' (with_reducible first | refine hK _ ?_ | (refine psel ?_ ?_ <;> (intro hc; (try rw [Decidable.not_not] at hc); first | (exfalso; omega) | (try simp [hc, hw]))))
         all_goals (clear hK; clear K))
      | (with_reducible refine wp_condE ?_
         refine ⟨_, rfl, ?_, ?_⟩ <;> (intro hc; (try simp at hc); (all_goals first | (exfalso; omega) | skip))))
    all_goals first | exact ⟨(pre ++ [d], rest), by simp, by simp, by simp⟩ | (exfalso; omega)

@[simp] theorem t202 (k0 k1 : Bool) (x_Ver : Int) (x_L : List XRef) (h : x_L.length ≤ 1048576) : Gw TT 202 [.st [.ro false (di x_Ver), .ro k0 (.sl 5 (x_L.map XRef.e))], .st [.ro false (di x_Ver), .ro k1 (.sl 5 (x_L.map XRef.e))]] = some (vb true, []) := by
  refine Gw_of (F := pf202) rfl rfl ?_
  show Wp _ pb202 _ _
  unfold pb202
  repeat' (first
    | with_reducible (first | refine wp_seq ?_ | refine wp_blk ?_ | refine wp_skip ?_ | refine wp_exit ?_ | refine wp_ret ?_ | refine seqQ_norm ?_ | refine seqQ_ret ?_ | refine seqQ_exit ?_ | refine blkQ_norm ?_ | refine blkQ_ret ?_ | refine blkQ_exit ?_ | refine loopQ_norm ?_ | refine loopQ_exit ?_ | refine loopQ_ret ?_ | refine endQ_ret ?_ | refine endQ_norm ?_ | refine endE_ret ?_ | refine endE_norm ?_ | refine endI_ret ?_ | refine endI_norm ?_)
    | (with_reducible refine wp_regK fun K hK => ?_
       simp[h]
       repeat' (with_reducible first | refine hK _ ?_ | (refine psel ?_ ?_ <;> (intro hc; (try rw [Decidable.not_not] at hc); first | (exfalso; omega) | (try simp [hc, h]))))
       all_goals (clear hK; clear K))
    | (with_reducible refine wp_condE ?_
       refine ⟨_, rfl, ?_, ?_⟩ <;> (intro hc; (try simp at hc); (all_goals first | (exfalso; omega) | skip))))
  all_goals first | (simp [pf202]; done) | (exfalso; omega)

def endR (e : Int) : List XRef → Int
  | [] => e
  | d :: l => endR (e + d.Many) l

theorem endR_app (r : XRef) : ∀ (l : List XRef) (e : Int), endR e (l ++ [r]) = endR e l + r.Many
  | [], e => rfl
  | d :: l, e => by simp only [List.cons_append, endR]; exact endR_app r l (e + d.Many)

theorem dirB_cons {p : List XRef} {e : Int} {d : XRef} {l : List XRef} (h : dirB p e (d :: l) = true) : 1 ≤ d.Many ∧ d.Many ≤ 1000000000 ∧ d.First = e ∧ dirB (p ++ [d]) (IntKind.wrap .i64 (e + d.Many)) l = true := by
  simp only [dirB] at h
  split at h
  · rename_i hc
    obtain ⟨h1, h2, h3⟩ := hc
    simp only [refOkF, Bool.and_eq_true, decide_eq_true_eq] at h1
    exact ⟨h1.2.1, h1.2.2, h2, h⟩
  · cases h

theorem dirB_cons' {p : List XRef} {e : Int} {d : XRef} {l : List XRef} (h : dirB p e (d :: l) = true) (h0 : 0 ≤ e) (hb : e + 1000000000 * ((d :: l).length : Int) ≤ 100000000000) :
    1 ≤ d.Many ∧ d.Many ≤ 1000000000 ∧ d.First = e ∧ dirB (p ++ [d]) (e + d.Many) l = true ∧ (e + d.Many) + 1000000000 * (l.length : Int) ≤ 100000000000 := by
  obtain ⟨h1, h2, h3, h4⟩ := dirB_cons h
  simp only [List.length_cons] at hb
  rw [wrap_i64 (by omega) (by omega)] at h4
  exact ⟨h1, h2, h3, h4, by omega⟩

theorem dirB_ends : ∀ (l : List XRef) (p : List XRef) (e : Int), dirB p e l = true → 0 ≤ e → e + 1000000000 * (l.length : Int) ≤ 100000000000 →
    e ≤ endR e l ∧ endR e l ≤ e + 1000000000 * (l.length : Int) ∧ ∀ r, l.getLast? = some r → IntKind.wrap .i64 (r.First + r.Many) = endR e l
  | [], p, e, _, _, _ => by simp [endR]
  | d :: l, p, e, h, h0, hb => by
    obtain ⟨h1, h2, h3, h4, h5⟩ := dirB_cons' h h0 hb
    obtain ⟨q1, q2, q3⟩ := dirB_ends l _ _ h4 (by omega) h5
    simp only [List.length_cons] at hb
    refine ⟨by simp only [endR]; omega, by simp only [endR, List.length_cons]; omega, fun r hr => ?_⟩
    cases l with
    | nil =>
      simp at hr; subst hr
      rw [h3, wrap_i64 (by omega) (by omega)]; rfl
    | cons d' l =>
      rw [List.getLast?_cons_cons] at hr
      exact q3 r hr

theorem dirB_endOf {l p : List XRef} (h : dirB p 0 l = true) (hb : l.length ≤ 8) : endOfF l = endR 0 l ∧ 0 ≤ endR 0 l ∧ endR 0 l ≤ 8000000000 := by
  obtain ⟨q1, q2, q3⟩ := dirB_ends l p 0 h (by omega) (by omega)
  refine ⟨?_, q1, by omega⟩
  unfold endOfF
  cases hl : l.getLast? with
  | none =>
    rw [List.getLast?_eq_none_iff] at hl
    subst hl; rfl
  | some r => exact q3 r hl

theorem dirB_prefix (r : XRef) : ∀ (l p : List XRef) (e : Int), dirB p e (l ++ [r]) = true → dirB p e l = true
  | [], p, e, _ => rfl
  | d :: l, p, e, h => by
    simp only [List.cons_append, dirB] at h ⊢
    split at h
    · rename_i hc
      rw [if_pos hc]
      exact dirB_prefix r l _ _ h
    · cases h

theorem inRef_eq {f m n : Int} (h0 : 0 ≤ f) (hn : 0 ≤ n) (hf : f ≤ 100000000000) (hn2 : n ≤ 100000000000) : inRef f m n = true ↔ f ≤ n ∧ n < f + m := by
  simp only [inRef, Bool.and_eq_true, decide_eq_true_eq]
  rw [wrap_i64 (by omega) (by omega)]
  constructor
  · rintro ⟨⟨_, h1⟩, h2⟩; exact ⟨h1, by omega⟩
  · rintro ⟨h1, h2⟩; exact ⟨⟨h0, h1⟩, by omega⟩

theorem refAt_out {n : Int} (hn2 : n ≤ 100000000000) : ∀ (l p : List XRef) (e i : Int), dirB p e l = true → 0 ≤ e → e + 1000000000 * (l.length : Int) ≤ 100000000000 → endR e l ≤ n → 0 ≤ n → refAtF n i l = -1
  | [], p, e, i, _, _, _, _, _ => rfl
  | d :: l, p, e, i, h, h0, hb, hn, hn0 => by
    obtain ⟨h1, h2, h3, h4, h5⟩ := dirB_cons' h h0 hb
    obtain ⟨q1, q2, q3⟩ := dirB_ends l _ _ h4 (by omega) h5
    simp only [endR] at hn
    simp only [refAtF]
    rw [if_neg (fun hc => ?_)]
    · exact refAt_out hn2 l _ _ (i + 1) h4 (by omega) h5 hn hn0
    · rw [inRef_eq (by omega) hn0 (by omega) hn2] at hc
      omega

theorem refAt_in {n : Int} (hn2 : n ≤ 100000000000) : ∀ (l p : List XRef) (e i : Int), dirB p e l = true → 0 ≤ e → e + 1000000000 * (l.length : Int) ≤ 100000000000 → e ≤ n → n < endR e l → 0 ≤ i →
    ∃ (j : Nat) (d : XRef), l[j]? = some d ∧ refAtF n i l = i + (j : Int) ∧ d.First ≤ n ∧ n < d.First + d.Many ∧ 0 ≤ d.First ∧ d.First + d.Many ≤ 100000000000 ∧ 0 ≤ d.Many
  | [], p, e, i, _, _, _, h1, h2, _ => by simp only [endR] at h2; omega
  | d :: l, p, e, i, h, h0, hb, hn, hn1, hi => by
    obtain ⟨h1, h2, h3, h4, h5⟩ := dirB_cons' h h0 hb
    simp only [endR] at hn1
    simp only [refAtF]
    by_cases hc : n < e + d.Many
    · rw [if_pos ((inRef_eq (by omega) (by omega) (by omega) hn2).2 ⟨by omega, by omega⟩)]
      exact ⟨0, d, rfl, by simp, by omega, by omega, by omega, by simp only [List.length_cons] at hb; omega, by omega⟩
    · rw [if_neg (fun hh => by rw [inRef_eq (by omega) (by omega) (by omega) hn2] at hh; omega)]
      obtain ⟨j, d', q1, q2, q3⟩ := refAt_in hn2 l _ _ (i + 1) h4 (by omega) h5 (by omega) hn1 (by omega)
      exact ⟨j + 1, d', by simpa using q1, by rw [q2]; omega, q3⟩

theorem hasBuf_last (r : XRef) : ∀ l : List XRef, hasBufF r.Buf (l ++ [r]) = true
  | [] => by simp [hasBufF]
  | d :: l => by
    simp only [List.cons_append, hasBufF]
    split
    · rfl
    · exact hasBuf_last r l

theorem sameRefs_self (l : List XRef) : sameRefsF l l = true := by
  unfold sameRefsF
  rw [if_pos rfl]
  induction l with
  | nil => rfl
  | cons d l ih => simp [refsZ, refEq, ih]

theorem e272_ex (b : List Int) (hb : b.length ≤ 1048576) : ∃ r : XDir × XRef, Gw TT 272 [.one (.ro false (.sl 1 (b.map eb)))] = some (.tup [.st [.ro false (di r.1.Ver), .own (.sl 5 (r.1.L.map XRef.e))], .st [.ro false (di r.2.Buf), .ro false (di r.2.Gen), .ro false (di r.2.Kind), .ro false (di r.2.First), .ro false (di r.2.Many)]], []) ∧ (r.1.L.length ≤ 4) := by
  suffices h0 : ∃ y, Gw TT 272 [.one (.ro false (.sl 1 (b.map eb)))] = some y ∧ ∃ r : XDir × XRef, y = (.tup [.st [.ro false (di r.1.Ver), .own (.sl 5 (r.1.L.map XRef.e))], .st [.ro false (di r.2.Buf), .ro false (di r.2.Gen), .ro false (di r.2.Kind), .ro false (di r.2.First), .ro false (di r.2.Many)]], []) ∧ (r.1.L.length ≤ 4) by
    obtain ⟨y, h1, r, rfl, h2⟩ := h0
    exact ⟨r, h1, h2⟩
  refine Gw_ofE (F := pf272) rfl rfl ?_
  show Wp _ pb272 _ _
  unfold pb272
  have q := p367 (newC b hb)
  obtain ⟨⟨⟨ver, l⟩, c1⟩, hd⟩ : ∃ r, d367 (newC b hb) = r := ⟨_, rfl⟩
  rw [hd] at q
  simp only at q
  have hl1 : l.length ≤ 1048576 := by omega
  repeat' (first
    | with_reducible (first | refine wp_seq ?_ | refine wp_blk ?_ | refine wp_skip ?_ | refine wp_exit ?_ | refine wp_ret ?_ | refine seqQ_norm ?_ | refine seqQ_ret ?_ | refine seqQ_exit ?_ | refine blkQ_norm ?_ | refine blkQ_ret ?_ | refine blkQ_exit ?_ | refine loopQ_norm ?_ | refine loopQ_exit ?_ | refine loopQ_ret ?_ | refine endQ_ret ?_ | refine endQ_norm ?_ | refine endE_ret ?_ | refine endE_norm ?_ | refine endI_ret ?_ | refine endI_norm ?_)
    | (with_reducible refine wp_regK fun K hK => ?_
       simp[hb, hd, hl1]
       repeat' (with_reducible first | refine hK _ ?_ | (refine psel ?_ ?_ <;> (intro hc; (try rw [Decidable.not_not] at hc); first | (exfalso; omega) | (try simp [hc, hb, hd, hl1]))))
       all_goals (clear hK; clear K))
    | (with_reducible refine wp_condE ?_
       refine ⟨_, rfl, ?_, ?_⟩ <;> (intro hc; (try simp at hc); (all_goals first | (exfalso; omega) | skip))))
  all_goals first | (refine ⟨_, by simp [pf272]; rfl, ?_⟩; refine ⟨((⟨ver, l⟩ : XDir), (⟨9, 0, IntKind.wrap .i64 (1 + (d375 c1 2).1), endOfF l, IntKind.wrap .i64 (1 + (d375 (d375 c1 2).2 3).1)⟩ : XRef)), ?_, ?_⟩; (focus (first | (simp; done) | (simp [*]; done))); (focus (simp only; omega))) | (refine ⟨_, by simp [pf272]; rfl, ?_⟩; refine ⟨((⟨ver, l⟩ : XDir), (⟨9, 0, IntKind.wrap .i64 (1 + (d375 c1 2).1), IntKind.wrap .i64 (endOfF l + 1), IntKind.wrap .i64 (1 + (d375 (d375 c1 2).2 3).1)⟩ : XRef)), ?_, ?_⟩; (focus (first | (simp; done) | (simp [*]; done))); (focus (simp only; omega))) | (exfalso; omega) | skip

theorem e285_ex (b : List Int) (hb : b.length ≤ 1048576) : ∃ r : XDir × Int, Gw TT 285 [.one (.ro false (.sl 1 (b.map eb)))] = some (.tup [.st [.ro false (di r.1.Ver), .own (.sl 5 (r.1.L.map XRef.e))], vi r.2], []) ∧ (r.1.L.length ≤ 4) := by
  suffices h0 : ∃ y, Gw TT 285 [.one (.ro false (.sl 1 (b.map eb)))] = some y ∧ ∃ r : XDir × Int, y = (.tup [.st [.ro false (di r.1.Ver), .own (.sl 5 (r.1.L.map XRef.e))], vi r.2], []) ∧ (r.1.L.length ≤ 4) by
    obtain ⟨y, h1, r, rfl, h2⟩ := h0
    exact ⟨r, h1, h2⟩
  refine Gw_ofE (F := pf285) rfl rfl ?_
  show Wp _ pb285 _ _
  unfold pb285
  have q := p367 (newC b hb)
  obtain ⟨⟨⟨ver, l⟩, c1⟩, hd⟩ : ∃ r, d367 (newC b hb) = r := ⟨_, rfl⟩
  rw [hd] at q
  simp only at q
  have hl1 : l.length ≤ 1048576 := by omega
  repeat' (first
    | with_reducible (first | refine wp_seq ?_ | refine wp_blk ?_ | refine wp_skip ?_ | refine wp_exit ?_ | refine wp_ret ?_ | refine seqQ_norm ?_ | refine seqQ_ret ?_ | refine seqQ_exit ?_ | refine blkQ_norm ?_ | refine blkQ_ret ?_ | refine blkQ_exit ?_ | refine loopQ_norm ?_ | refine loopQ_exit ?_ | refine loopQ_ret ?_ | refine endQ_ret ?_ | refine endQ_norm ?_ | refine endE_ret ?_ | refine endE_norm ?_ | refine endI_ret ?_ | refine endI_norm ?_)
    | (with_reducible refine wp_regK fun K hK => ?_
       simp[hb, hd, hl1]
       repeat' (with_reducible first | refine hK _ ?_ | (refine psel ?_ ?_ <;> (intro hc; (try rw [Decidable.not_not] at hc); first | (exfalso; omega) | (try simp [hc, hb, hd, hl1]))))
       all_goals (clear hK; clear K))
    | (with_reducible refine wp_condE ?_
       refine ⟨_, rfl, ?_, ?_⟩ <;> (intro hc; (try simp at hc); (all_goals first | (exfalso; omega) | skip))))
  all_goals first | (refine ⟨_, by simp [pf285]; rfl, ?_⟩; refine ⟨((⟨ver, l⟩ : XDir), IntKind.wrap .i64 ((d375 c1 14).1 - 1)), ?_, ?_⟩; (focus (first | (simp; done) | (simp [*]; done))); (focus (simp only; omega))) | (exfalso; omega) | skip

theorem e277_ex (b : List Int) (hb : b.length ≤ 1048576) : ∃ r : XDir × Int, Gw TT 277 [.one (.ro false (.sl 1 (b.map eb)))] = some (.tup [.st [.ro false (di r.1.Ver), .own (.sl 5 (r.1.L.map XRef.e))], vi r.2], []) ∧ (r.1.L.length ≤ 4) := by
  suffices h0 : ∃ y, Gw TT 277 [.one (.ro false (.sl 1 (b.map eb)))] = some y ∧ ∃ r : XDir × Int, y = (.tup [.st [.ro false (di r.1.Ver), .own (.sl 5 (r.1.L.map XRef.e))], vi r.2], []) ∧ (r.1.L.length ≤ 4) by
    obtain ⟨y, h1, r, rfl, h2⟩ := h0
    exact ⟨r, h1, h2⟩
  refine Gw_ofE (F := pf277) rfl rfl ?_
  show Wp _ pb277 _ _
  unfold pb277
  have q := p367 (newC b hb)
  obtain ⟨⟨⟨ver, l⟩, c1⟩, hd⟩ : ∃ r, d367 (newC b hb) = r := ⟨_, rfl⟩
  rw [hd] at q
  simp only at q
  have hl1 : l.length ≤ 1048576 := by omega
  repeat' (first
    | with_reducible (first | refine wp_seq ?_ | refine wp_blk ?_ | refine wp_skip ?_ | refine wp_exit ?_ | refine wp_ret ?_ | refine seqQ_norm ?_ | refine seqQ_ret ?_ | refine seqQ_exit ?_ | refine blkQ_norm ?_ | refine blkQ_ret ?_ | refine blkQ_exit ?_ | refine loopQ_norm ?_ | refine loopQ_exit ?_ | refine loopQ_ret ?_ | refine endQ_ret ?_ | refine endQ_norm ?_ | refine endE_ret ?_ | refine endE_norm ?_ | refine endI_ret ?_ | refine endI_norm ?_)
    | (with_reducible refine wp_regK fun K hK => ?_
       simp[hb, hd, hl1]
       repeat' (with_reducible first | refine hK _ ?_ | (refine psel ?_ ?_ <;> (intro hc; (try rw [Decidable.not_not] at hc); first | (exfalso; omega) | (try simp [hc, hb, hd, hl1]))))
       all_goals (clear hK; clear K))
    | (with_reducible refine wp_condE ?_
       refine ⟨_, rfl, ?_, ?_⟩ <;> (intro hc; (try simp at hc); (all_goals first | (exfalso; omega) | skip))))
  all_goals first | (refine ⟨_, by simp [pf277]; rfl, ?_⟩; refine ⟨((⟨ver, l⟩ : XDir), IntKind.wrap .i64 ((d375 c1 6).1 - 1)), ?_, ?_⟩; (focus (first | (simp; done) | (simp [*]; done))); (focus (simp only; omega))) | (exfalso; omega) | skip

theorem t90 (code : List Int) (hok_code : code.length ≤ 9223372036854775807) : Gw TT 90 [.one (.ro false (.sl 1 (code.map eb)))] = some (vb true, []) := by
  refine Gw_of (F := pf90) rfl rfl ?_
  show Wp _ pb90 _ _
  unfold pb90
  by_cases hb : code.length ≤ 1048576
  · have hbg : ¬ (1048576 < (code.length : Int)) := by omega
    obtain ⟨⟨⟨ver, l⟩, ⟨rb, rg, rk, rf, rm⟩⟩, g1, hl⟩ := e272_ex code hb
    obtain ⟨⟨⟨ve, m⟩, id⟩, g2, hm⟩ := e285_ex code hb
    obtain ⟨⟨⟨vh, q⟩, bb⟩, g3, hq⟩ := e277_ex code hb
    simp only at g1 hl g2 hm g3 hq
    have hl1 : l.length ≤ 1048576 := by omega
    have hm1 : m.length ≤ 1048576 := by omega
    have hq1 : q.length ≤ 1048576 := by omega
    have hss := sameRefs_self l
    cases hO : addOk ver l ⟨rb, rg, rk, rf, rm⟩ with
    | false =>
      have hD : addL ver l ⟨rb, rg, rk, rf, rm⟩ = l := by simp [addL, hO]
      have hV : addV ver l ⟨rb, rg, rk, rf, rm⟩ = ver := by simp [addV, hO]
      repeat' (first
        | with_reducible (first | refine wp_seq ?_ | refine wp_blk ?_ | refine wp_skip ?_ | refine wp_exit ?_ | refine wp_ret ?_ | refine seqQ_norm ?_ | refine seqQ_ret ?_ | refine seqQ_exit ?_ | refine blkQ_norm ?_ | refine blkQ_ret ?_ | refine blkQ_exit ?_ | refine loopQ_norm ?_ | refine loopQ_exit ?_ | refine loopQ_ret ?_ | refine endQ_ret ?_ | refine endQ_norm ?_ | refine endE_ret ?_ | refine endE_norm ?_ | refine endI_ret ?_ | refine endI_norm ?_)
        | (with_reducible refine wp_regK fun K hK => ?_
           simp[hok_code, hbg, g1, g2, g3, hl1, hm1, hq1, hss, hO, hD, hV]
           repeat' (with_reducible first | refine hK _ ?_ | (refine psel ?_ ?_ <;> (intro hc; (try rw [Decidable.not_not] at hc); first | (exfalso; omega) | (try simp [hc, hok_code, hbg, g1, g2, g3, hl1, hm1, hq1, hss, hO, hD, hV]))))
           all_goals (clear hK; clear K))
        | (with_reducible refine wp_condE ?_
           refine ⟨_, rfl, ?_, ?_⟩ <;> (intro hc; (try simp at hc); (all_goals first | (exfalso; omega) | skip))))
      all_goals first | (simp [pf90]; done) | (exfalso; omega) | skip
    | true =>
      have hV : addV ver l ⟨rb, rg, rk, rf, rm⟩ = IntKind.wrap .i64 (ver + 1) := by simp [addV, hO]
      have hD : addL ver l ⟨rb, rg, rk, rf, rm⟩ = l ++ [⟨rb, rg, rk, rf, rm⟩] := by simp [addL, hO]
      have hO2 := hO
      simp only [addOk] at hO2
      have hdo := hO2
      simp only [dirOkB, Bool.and_eq_true, decide_eq_true_eq] at hO2
      obtain ⟨⟨_, hX8⟩, hdb⟩ := hO2
      have hdp := dirB_prefix _ _ _ _ hdb
      have hX8' : (l ++ [(⟨rb, rg, rk, rf, rm⟩ : XRef)]).length ≤ 8 := by omega
      obtain ⟨a1, a2, a3⟩ := dirB_endOf hdb hX8'
      obtain ⟨b1, b2, b3⟩ := dirB_endOf hdp (by omega)
      have hap := endR_app ⟨rb, rg, rk, rf, rm⟩ l 0
      simp only at hap
      have hen : IntKind.wrap .i64 (endOfF l + rm) = endOfF (l ++ [⟨rb, rg, rk, rf, rm⟩]) := by
        rw [a1, b1, hap, wrap_i64 (by omega) (by omega)]
      have hout : refAtF (endOfF (l ++ [⟨rb, rg, rk, rf, rm⟩])) 0 (l ++ [⟨rb, rg, rk, rf, rm⟩]) = -1 := by
        rw [a1]; exact refAt_out (by omega) _ [] 0 0 hdb (by omega) (by omega) (Int.le_refl _) a2
      have hhb : hasBufF rb (l ++ [⟨rb, rg, rk, rf, rm⟩]) = true := hasBuf_last ⟨rb, rg, rk, rf, rm⟩ l
      have hin : ∀ n : Int, 0 ≤ n → n < endOfF (l ++ [⟨rb, rg, rk, rf, rm⟩]) → ∃ (j : Nat) (d : XRef), (l ++ [(⟨rb, rg, rk, rf, rm⟩ : XRef)])[j]? = some d ∧ refAtF n 0 (l ++ [⟨rb, rg, rk, rf, rm⟩]) = (j : Int) ∧ d.First ≤ n ∧ n < d.First + d.Many ∧ 0 ≤ d.First ∧ d.First + d.Many ≤ 100000000000 ∧ 0 ≤ d.Many := by
        intro n h0 h1
        obtain ⟨j, d, r1, r2, r3⟩ := refAt_in (n := n) (by omega) _ [] 0 0 hdb (by omega) (by omega) h0 (by omega) (by omega)
        exact ⟨j, d, r1, by omega, r3⟩
      have hXl := hX8'
      rw [← hD] at hdo hen hout hhb hin a1 hXl
      generalize hX : addL ver l ⟨rb, rg, rk, rf, rm⟩ = X at hdo hen hout hhb hin a1 hXl
      have hX1 : X.length ≤ 1048576 := by omega
      repeat' (first
        | with_reducible (first | refine wp_seq ?_ | refine wp_blk ?_ | refine wp_skip ?_ | refine wp_exit ?_ | refine wp_ret ?_ | refine seqQ_norm ?_ | refine seqQ_ret ?_ | refine seqQ_exit ?_ | refine blkQ_norm ?_ | refine blkQ_ret ?_ | refine blkQ_exit ?_ | refine loopQ_norm ?_ | refine loopQ_exit ?_ | refine loopQ_ret ?_ | refine endQ_ret ?_ | refine endQ_norm ?_ | refine endE_ret ?_ | refine endE_norm ?_ | refine endI_ret ?_ | refine endI_norm ?_)
        | (with_reducible refine wp_regK fun K hK => ?_
           simp[hok_code, hbg, g1, g2, g3, hl1, hm1, hq1, hss, hO, hV, hX, hX1]
           repeat' (with_reducible first | refine hK _ ?_ | (refine psel ?_ ?_ <;> (intro hc; (try rw [Decidable.not_not] at hc); first | (exfalso; omega) | (try simp [hc, hok_code, hbg, g1, g2, g3, hl1, hm1, hq1, hss, hO, hV, hX, hX1]))))
           all_goals (clear hK; clear K))
        | (with_reducible refine wp_condE ?_
           refine ⟨_, rfl, ?_, ?_⟩ <;> (intro hc; (try simp at hc); (all_goals first | (exfalso; omega) | skip))))
      · refine wp_loopI (σ := Nat) (fun s => [(3, AV.bx 3 0, some (Rt.bx [.ro false (di (ver)), .own (.sl 5 ((l).map XRef.e))])), (4, AV.bx 4 0, some (Rt.bx [.ro false (di rb), .ro false (di rg), .ro false (di rk), .ro false (di rf), .ro false (di rm)])), (5, AV.bx 5 0, some (Rt.bx [.ro false (di (IntKind.wrap .i64 (ver + 1))), .own (.sl 5 ((X).map XRef.e))])), (13, AV.v false (di (s : Nat)), none)]) (fun s => s ≤ 40) (fun s => 40 - s) 0 (by simp) (Nat.zero_le _) ?_
        intro s h1
        unfold pl90_0
        by_cases h2 : (s : Int) < endOfF X
        · by_cases h3 : s < 40
          · obtain ⟨j, d, r1, r2, r3, r4, r5, r6, r7⟩ := hin (s : Int) (by omega) h2
            obtain ⟨hj, hje⟩ := List.getElem?_eq_some_iff.1 r1
            have hw : IntKind.wrap .i64 ((s : Int) + 1) = (s : Int) + 1 := wrap_i64 (by omega) (by omega)
            have hw2 : IntKind.wrap .i64 (d.First + d.Many) = d.First + d.Many := wrap_i64 (by omega) (by omega)
            have k1 : ¬ ((s : Int) < d.First) := by omega
            have k2 : ¬ (d.First + d.Many ≤ (s : Int)) := by omega
            have k3 : (s : Int) < 40 := by omega
            have k4 : ¬ ((j : Int) < 0) := by omega
            repeat' (first
              | with_reducible (first | refine wp_seq ?_ | refine wp_blk ?_ | refine wp_skip ?_ | refine wp_exit ?_ | refine wp_ret ?_ | refine seqQ_norm ?_ | refine seqQ_ret ?_ | refine seqQ_exit ?_ | refine blkQ_norm ?_ | refine blkQ_ret ?_ | refine blkQ_exit ?_ | refine loopQ_norm ?_ | refine loopQ_exit ?_ | refine loopQ_ret ?_ | refine endQ_ret ?_ | refine endQ_norm ?_ | refine endE_ret ?_ | refine endE_norm ?_ | refine endI_ret ?_ | refine endI_norm ?_)
              | (with_reducible refine wp_regK fun K hK => ?_
                 simp[hX1, h2, h3, k3, r1, r2, hj, hje, hw, hw2, k1, k2, k4]
                 repeat' (with_reducible first | refine hK _ ?_ | (refine psel ?_ ?_ <;> (intro hc; (try rw [Decidable.not_not] at hc); first | (exfalso; omega) | (try simp [hc, hX1, h2, h3, k3, r1, r2, hj, hje, hw, hw2, k1, k2, k4]))))
                 all_goals (clear hK; clear K))
              | (with_reducible refine wp_condE ?_
                 refine ⟨_, rfl, ?_, ?_⟩ <;> (intro hc; (try simp at hc); (all_goals first | (exfalso; omega) | skip))))
            all_goals first | exact ⟨s + 1, by simp, by omega, by omega⟩ | (exfalso; omega) | (exfalso; simp_all; done) | skip
          · have h4 : ¬ ((s : Int) < 40) := by omega
            repeat' (first
              | with_reducible (first | refine wp_seq ?_ | refine wp_blk ?_ | refine wp_skip ?_ | refine wp_exit ?_ | refine wp_ret ?_ | refine seqQ_norm ?_ | refine seqQ_ret ?_ | refine seqQ_exit ?_ | refine blkQ_norm ?_ | refine blkQ_ret ?_ | refine blkQ_exit ?_ | refine loopQ_norm ?_ | refine loopQ_exit ?_ | refine loopQ_ret ?_ | refine endQ_ret ?_ | refine endQ_norm ?_ | refine endE_ret ?_ | refine endE_norm ?_ | refine endI_ret ?_ | refine endI_norm ?_)
              | (with_reducible refine wp_regK fun K hK => ?_
                 simp[hX1, h2, h3, h4, hl1, hdo, hen, hout, hhb]
                 repeat' (with_reducible first | refine hK _ ?_ | (refine psel ?_ ?_ <;> (intro hc; (try rw [Decidable.not_not] at hc); first | (exfalso; omega) | (try simp [hc, hX1, h2, h3, h4, hl1, hdo, hen, hout, hhb]))))
                 all_goals (clear hK; clear K))
              | (with_reducible refine wp_condE ?_
                 refine ⟨_, rfl, ?_, ?_⟩ <;> (intro hc; (try simp at hc); (all_goals first | (exfalso; omega) | skip))))
            all_goals first | (simp [pf90]; done) | (exfalso; omega) | skip
        · repeat' (first
            | with_reducible (first | refine wp_seq ?_ | refine wp_blk ?_ | refine wp_skip ?_ | refine wp_exit ?_ | refine wp_ret ?_ | refine seqQ_norm ?_ | refine seqQ_ret ?_ | refine seqQ_exit ?_ | refine blkQ_norm ?_ | refine blkQ_ret ?_ | refine blkQ_exit ?_ | refine loopQ_norm ?_ | refine loopQ_exit ?_ | refine loopQ_ret ?_ | refine endQ_ret ?_ | refine endQ_norm ?_ | refine endE_ret ?_ | refine endE_norm ?_ | refine endI_ret ?_ | refine endI_norm ?_)
            | (with_reducible refine wp_regK fun K hK => ?_
               simp[hX1, h2, hl1, hdo, hen, hout, hhb]
               repeat' (with_reducible first | refine hK _ ?_ | (refine psel ?_ ?_ <;> (intro hc; (try rw [Decidable.not_not] at hc); first | (exfalso; omega) | (try simp [hc, hX1, h2, hl1, hdo, hen, hout, hhb]))))
               all_goals (clear hK; clear K))
            | (with_reducible refine wp_condE ?_
               refine ⟨_, rfl, ?_, ?_⟩ <;> (intro hc; (try simp at hc); (all_goals first | (exfalso; omega) | skip))))
          all_goals first | (simp [pf90]; done) | (exfalso; omega) | skip
      all_goals first | (simp [pf90]; done) | (exfalso; omega) | skip
  · have hbg : 1048576 < (code.length : Int) := by omega
    repeat' (first
      | with_reducible (first | refine wp_seq ?_ | refine wp_blk ?_ | refine wp_skip ?_ | refine wp_exit ?_ | refine wp_ret ?_ | refine seqQ_norm ?_ | refine seqQ_ret ?_ | refine seqQ_exit ?_ | refine blkQ_norm ?_ | refine blkQ_ret ?_ | refine blkQ_exit ?_ | refine loopQ_norm ?_ | refine loopQ_exit ?_ | refine loopQ_ret ?_ | refine endQ_ret ?_ | refine endQ_norm ?_ | refine endE_ret ?_ | refine endE_norm ?_ | refine endI_ret ?_ | refine endI_norm ?_)
      | (with_reducible refine wp_regK fun K hK => ?_
         simp[hok_code, hbg]
         repeat' (with_reducible first | refine hK _ ?_ | (refine psel ?_ ?_ <;> (intro hc; (try rw [Decidable.not_not] at hc); first | (exfalso; omega) | (try simp [hc, hok_code, hbg]))))
         all_goals (clear hK; clear K))
      | (with_reducible refine wp_condE ?_
         refine ⟨_, rfl, ?_, ?_⟩ <;> (intro hc; (try simp at hc); (all_goals first | (exfalso; omega) | skip))))
    all_goals first | (simp [pf90]; done) | (exfalso; omega)

end Go.Proofs.Ytkgibccknlbiaaa.OM
