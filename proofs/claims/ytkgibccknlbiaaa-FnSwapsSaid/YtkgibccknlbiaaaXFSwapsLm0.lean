/- What the functions answer. -/
import Derived.Test.YtkgibccknlbiaaaOMTypes
import Derived.Test.YtkgibccknlbiaaaOMTac2
import Derived.Test.YtkgibccknlbiaaaXFSwapsPc0
set_option linter.all false
namespace Go.Proofs.Ytkgibccknlbiaaa.OM
set_option maxHeartbeats 4000000
set_option maxRecDepth 100000

def tab : List (Nat × PF) := [(15, pf15), (16, pf16), (22, pf22), (56, pf56), (71, pf71), (74, pf74), (82, pf82), (87, pf87), (138, pf138), (141, pf141), (202, pf202), (206, pf206), (271, pf271), (291, pf291), (296, pf296), (337, pf337), (367, pf367), (368, pf368), (369, pf369), (370, pf370), (375, pf375), (376, pf376), (377, pf377), (378, pf378), (379, pf379), (382, pf382)]
def TT (k : Nat) : Option PF := tab.lookup k

@[simp] theorem t87 (x a b : Int) : Gw TT 87 [vi x, vi a, vi b] = some (vb (decide (a ≤ x) && decide (x ≤ b)), []) := by
  refine Gw_of (F := pf87) rfl rfl ?_
  show Wp _ pb87 _ _
  unfold pb87
  repeat' (first
    | with_reducible (first | refine wp_seq ?_ | refine wp_blk ?_ | refine wp_skip ?_ | refine wp_exit ?_ | refine wp_ret ?_ | refine seqQ_norm ?_ | refine seqQ_ret ?_ | refine seqQ_exit ?_ | refine blkQ_norm ?_ | refine blkQ_ret ?_ | refine blkQ_exit ?_ | refine loopQ_norm ?_ | refine loopQ_exit ?_ | refine loopQ_ret ?_ | refine endQ_ret ?_ | refine endQ_norm ?_ | refine endE_ret ?_ | refine endE_norm ?_ | refine endI_ret ?_ | refine endI_norm ?_)
    | (with_reducible refine wp_regK fun K hK => ?_
       simp
       repeat' (with_reducible first | refine hK _ ?_ | (refine psel ?_ ?_ <;> (intro hc; (try rw [Decidable.not_not] at hc); first | (exfalso; omega) | (try simp [hc]))))
       all_goals (clear hK; clear K))
    | (with_reducible refine wp_condE ?_
       refine ⟨_, rfl, ?_, ?_⟩ <;> (intro hc; (try simp at hc); (all_goals first | (exfalso; omega) | skip))))
  all_goals first | (simp_all [pf87]; done) | (simp_all [pf87]; omega)

@[simp] theorem t377 (x a b : Int) : Gw TT 377 [vi x, vi a, vi b] = some (vb (decide (a ≤ x) && decide (x ≤ b)), []) := by
  refine Gw_of (F := pf377) rfl rfl ?_
  show Wp _ pb377 _ _
  unfold pb377
  repeat' (first
    | with_reducible (first | refine wp_seq ?_ | refine wp_blk ?_ | refine wp_skip ?_ | refine wp_exit ?_ | refine wp_ret ?_ | refine seqQ_norm ?_ | refine seqQ_ret ?_ | refine seqQ_exit ?_ | refine blkQ_norm ?_ | refine blkQ_ret ?_ | refine blkQ_exit ?_ | refine loopQ_norm ?_ | refine loopQ_exit ?_ | refine loopQ_ret ?_ | refine endQ_ret ?_ | refine endQ_norm ?_ | refine endE_ret ?_ | refine endE_norm ?_ | refine endI_ret ?_ | refine endI_norm ?_)
    | (with_reducible refine wp_regK fun K hK => ?_
       simp
       repeat' (with_reducible first | refine hK _ ?_ | (refine psel ?_ ?_ <;> (intro hc; (try rw [Decidable.not_not] at hc); first | (exfalso; omega) | (try simp [hc]))))
       all_goals (clear hK; clear K))
    | (with_reducible refine wp_condE ?_
       refine ⟨_, rfl, ?_, ?_⟩ <;> (intro hc; (try simp at hc); (all_goals first | (exfalso; omega) | skip))))
  all_goals first | (simp_all [pf377]; done) | (simp_all [pf377]; omega)

def endOfF (l : List XRef) : Int := match l.getLast? with
  | none => 0
  | some r => IntKind.wrap .i64 (r.First + r.Many)

@[simp] theorem t16 (k0 : Bool) (x_Ver : Int) (x_L : List XRef) (h : x_L.length ≤ 1048576) : Gw TT 16 [.st [.ro false (di x_Ver), .ro k0 (.sl 5 (x_L.map XRef.e))]] = some (vi (endOfF x_L), []) := by
  refine Gw_of (F := pf16) rfl rfl ?_
  show Wp _ pb16 _ _
  unfold pb16
  rcases List.eq_nil_or_concat x_L with rfl | ⟨pre, r, rfl⟩
  · repeat' (first
      | with_reducible (first | refine wp_seq ?_ | refine wp_blk ?_ | refine wp_skip ?_ | refine wp_exit ?_ | refine wp_ret ?_ | refine seqQ_norm ?_ | refine seqQ_ret ?_ | refine seqQ_exit ?_ | refine blkQ_norm ?_ | refine blkQ_ret ?_ | refine blkQ_exit ?_ | refine loopQ_norm ?_ | refine loopQ_exit ?_ | refine loopQ_ret ?_ | refine endQ_ret ?_ | refine endQ_norm ?_ | refine endE_ret ?_ | refine endE_norm ?_ | refine endI_ret ?_ | refine endI_norm ?_)
      | (with_reducible refine wp_regK fun K hK => ?_
         simp
         repeat' (with_reducible first | refine hK _ ?_ | (refine psel ?_ ?_ <;> (intro hc; (try rw [Decidable.not_not] at hc); first | (exfalso; omega) | (try simp [hc]))))
         all_goals (clear hK; clear K))
      | (with_reducible refine wp_condE ?_
         refine ⟨_, rfl, ?_, ?_⟩ <;> (intro hc; (try simp at hc); (all_goals first | (exfalso; omega) | skip))))
    all_goals simp [pf16, endOfF]
  · simp only [List.concat_eq_append, List.length_append, List.length_cons, List.length_nil] at h
    have hw : IntKind.wrap .i64 (pre.length : Int) = (pre.length : Int) := wrap_i64 (by omega) (by omega)
    repeat' (first
      | with_reducible (first | refine wp_seq ?_ | refine wp_blk ?_ | refine wp_skip ?_ | refine wp_exit ?_ | refine wp_ret ?_ | refine seqQ_norm ?_ | refine seqQ_ret ?_ | refine seqQ_exit ?_ | refine blkQ_norm ?_ | refine blkQ_ret ?_ | refine blkQ_exit ?_ | refine loopQ_norm ?_ | refine loopQ_exit ?_ | refine loopQ_ret ?_ | refine endQ_ret ?_ | refine endQ_norm ?_ | refine endE_ret ?_ | refine endE_norm ?_ | refine endI_ret ?_ | refine endI_norm ?_)
      | (with_reducible refine wp_regK fun K hK => ?_
         simp[hw]
         repeat' (with_reducible first | refine hK _ ?_ | (refine psel ?_ ?_ <;> (intro hc; (try rw [Decidable.not_not] at hc); first | (exfalso; omega) | (try simp [hc, hw]))))
         all_goals (clear hK; clear K))
      | (with_reducible refine wp_condE ?_
         refine ⟨_, rfl, ?_, ?_⟩ <;> (intro hc; (try simp at hc); (all_goals first | (exfalso; omega) | skip))))
    all_goals simp [pf16, endOfF]

@[simp] theorem t296 (k0 : Bool) (x_Ver : Int) (x_L : List XRef) (h : x_L.length ≤ 1048576) : Gw TT 296 [.st [.ro false (di x_Ver), .ro k0 (.sl 5 (x_L.map XRef.e))]] = some (vi (endOfF x_L), []) := by
  refine Gw_of (F := pf296) rfl rfl ?_
  show Wp _ pb296 _ _
  unfold pb296
  rcases List.eq_nil_or_concat x_L with rfl | ⟨pre, r, rfl⟩
  · repeat' (first
      | with_reducible (first | refine wp_seq ?_ | refine wp_blk ?_ | refine wp_skip ?_ | refine wp_exit ?_ | refine wp_ret ?_ | refine seqQ_norm ?_ | refine seqQ_ret ?_ | refine seqQ_exit ?_ | refine blkQ_norm ?_ | refine blkQ_ret ?_ | refine blkQ_exit ?_ | refine loopQ_norm ?_ | refine loopQ_exit ?_ | refine loopQ_ret ?_ | refine endQ_ret ?_ | refine endQ_norm ?_ | refine endE_ret ?_ | refine endE_norm ?_ | refine endI_ret ?_ | refine endI_norm ?_)
      | (with_reducible refine wp_regK fun K hK => ?_
         simp
         repeat' (with_reducible first | refine hK _ ?_ | (refine psel ?_ ?_ <;> (intro hc; (try rw [Decidable.not_not] at hc); first | (exfalso; omega) | (try simp [hc]))))
         all_goals (clear hK; clear K))
      | (with_reducible refine wp_condE ?_
         refine ⟨_, rfl, ?_, ?_⟩ <;> (intro hc; (try simp at hc); (all_goals first | (exfalso; omega) | skip))))
    all_goals simp [pf296, endOfF]
  · simp only [List.concat_eq_append, List.length_append, List.length_cons, List.length_nil] at h
    have hw : IntKind.wrap .i64 (pre.length : Int) = (pre.length : Int) := wrap_i64 (by omega) (by omega)
    repeat' (first
      | with_reducible (first | refine wp_seq ?_ | refine wp_blk ?_ | refine wp_skip ?_ | refine wp_exit ?_ | refine wp_ret ?_ | refine seqQ_norm ?_ | refine seqQ_ret ?_ | refine seqQ_exit ?_ | refine blkQ_norm ?_ | refine blkQ_ret ?_ | refine blkQ_exit ?_ | refine loopQ_norm ?_ | refine loopQ_exit ?_ | refine loopQ_ret ?_ | refine endQ_ret ?_ | refine endQ_norm ?_ | refine endE_ret ?_ | refine endE_norm ?_ | refine endI_ret ?_ | refine endI_norm ?_)
      | (with_reducible refine wp_regK fun K hK => ?_
         simp[hw]
         repeat' (with_reducible first | refine hK _ ?_ | (refine psel ?_ ?_ <;> (intro hc; (try rw [Decidable.not_not] at hc); first | (exfalso; omega) | (try simp [hc, hw]))))
         all_goals (clear hK; clear K))
      | (with_reducible refine wp_condE ?_
         refine ⟨_, rfl, ?_, ?_⟩ <;> (intro hc; (try simp at hc); (all_goals first | (exfalso; omega) | skip))))
    all_goals simp [pf296, endOfF]

def hasBufF (b : Int) : List XRef → Bool
  | [] => false
  | d :: l => if d.Buf = b then true else hasBufF b l
def inRef (f m id : Int) : Bool := decide (0 ≤ f) && decide (f ≤ id) && decide (IntKind.wrap .i64 (id - f) < m)
def refAtF (id : Int) : Int → List XRef → Int
  | _, [] => -1
  | i, d :: l => if inRef d.First d.Many id then i else refAtF id (i + 1) l

@[simp] theorem t22 (k0 : Bool) (x_Ver : Int) (x_L : List XRef) (b : Int) (h : x_L.length ≤ 1048576) : Gw TT 22 [.st [.ro false (di x_Ver), .ro k0 (.sl 5 (x_L.map XRef.e))], vi b] = some (vb (hasBufF b x_L), []) := by
  refine Gw_of (F := pf22) rfl rfl ?_
  show Wp _ pb22 _ _
  unfold pb22
  repeat' (first
    | with_reducible (first | refine wp_seq ?_ | refine wp_blk ?_ | refine wp_skip ?_ | refine wp_exit ?_ | refine wp_ret ?_ | refine seqQ_norm ?_ | refine seqQ_ret ?_ | refine seqQ_exit ?_ | refine blkQ_norm ?_ | refine blkQ_ret ?_ | refine blkQ_exit ?_ | refine loopQ_norm ?_ | refine loopQ_exit ?_ | refine loopQ_ret ?_ | refine endQ_ret ?_ | refine endQ_norm ?_ | refine endE_ret ?_ | refine endE_norm ?_ | refine endI_ret ?_ | refine endI_norm ?_)
    | (with_reducible refine wp_regK fun K hK => ?_
       simp
       repeat' (with_reducible first | refine hK _ ?_ | (refine psel ?_ ?_ <;> (intro hc; (try rw [Decidable.not_not] at hc); first | (exfalso; omega) | (try simp [hc]))))
       all_goals (clear hK; clear K))
    | (with_reducible refine wp_condE ?_
       refine ⟨_, rfl, ?_, ?_⟩ <;> (intro hc; (try simp at hc); (all_goals first | (exfalso; omega) | skip))))
  refine wp_loopI (σ := List (XRef) × List (XRef)) (fun s => [(1, AV.v false (di b), none), (2, AV.bx 2 0, some (Rt.bx [.ro false (di x_Ver), .ro k0 (.sl 5 (x_L.map XRef.e))])), (8, AV.v k0 (D.sl 5 (x_L.map XRef.e)), none), (9, AV.v false (di (x_L.length : Nat)), none), (10, AV.v false (di ((s.1.length : Nat) : Int)), none)]) (fun s => x_L = s.1 ++ s.2 ∧ hasBufF b s.2 = hasBufF b x_L) (fun s => s.2.length) ([], x_L) (by simp) ⟨rfl, rfl⟩ ?_
  rintro ⟨pre, rest⟩ ⟨h1, h2⟩
  simp only at h1 h2
  subst h1
  simp only [List.length_append, List.length_cons] at h
  rcases rest with _ | ⟨d, rest⟩
  · unfold pl22_0
    simp only [hasBufF] at h2
    repeat' (first
      | with_reducible (first | refine wp_seq ?_ | refine wp_blk ?_ | refine wp_skip ?_ | refine wp_exit ?_ | refine wp_ret ?_ | refine seqQ_norm ?_ | refine seqQ_ret ?_ | refine seqQ_exit ?_ | refine blkQ_norm ?_ | refine blkQ_ret ?_ | refine blkQ_exit ?_ | refine loopQ_norm ?_ | refine loopQ_exit ?_ | refine loopQ_ret ?_ | refine endQ_ret ?_ | refine endQ_norm ?_ | refine endE_ret ?_ | refine endE_norm ?_ | refine endI_ret ?_ | refine endI_norm ?_)
      | (with_reducible refine wp_regK fun K hK => ?_
         simp
         repeat' (with_reducible first | refine hK _ ?_ | (refine psel ?_ ?_ <;> (intro hc; (try rw [Decidable.not_not] at hc); first | (exfalso; omega) | (try simp [hc]))))
         all_goals (clear hK; clear K))
      | (with_reducible refine wp_condE ?_
         refine ⟨_, rfl, ?_, ?_⟩ <;> (intro hc; (try simp at hc); (all_goals first | (exfalso; omega) | skip))))
    all_goals first | (simp_all [pf22]; done) | (simp_all [pf22]; omega)
  · unfold pl22_0
    simp only [List.length_cons] at h
    simp only [hasBufF] at h2
    have hw : IntKind.wrap .i64 ((pre.length : Int) + 1) = (pre.length : Int) + 1 := wrap_i64 (by omega) (by omega)
    repeat' (first
      | with_reducible (first | refine wp_seq ?_ | refine wp_blk ?_ | refine wp_skip ?_ | refine wp_exit ?_ | refine wp_ret ?_ | refine seqQ_norm ?_ | refine seqQ_ret ?_ | refine seqQ_exit ?_ | refine blkQ_norm ?_ | refine blkQ_ret ?_ | refine blkQ_exit ?_ | refine loopQ_norm ?_ | refine loopQ_exit ?_ | refine loopQ_ret ?_ | refine endQ_ret ?_ | refine endQ_norm ?_ | refine endE_ret ?_ | refine endE_norm ?_ | refine endI_ret ?_ | refine endI_norm ?_)
      | (with_reducible refine wp_regK fun K hK => ?_
         simp[hw]
         repeat' (with_reducible first | refine hK _ ?_ | (refine psel ?_ ?_ <;> (intro hc; (try rw [Decidable.not_not] at hc); first | (exfalso; omega) | (try simp [hc, hw]))))
         all_goals (clear hK; clear K))
      | (with_reducible refine wp_condE ?_
         refine ⟨_, rfl, ?_, ?_⟩ <;> (intro hc; (try simp at hc); (all_goals first | (exfalso; omega) | skip))))
    all_goals first | (refine ⟨(pre ++ [d], rest), ?_, ⟨?_, ?_⟩, ?_⟩; (focus (first | (simp; done) | (simp_all; done))); (focus (simp; done)); (focus (refine Eq.trans ?_ h2; clear h2; first | (simp [*]; done) | (simp_all; done) | (split <;> simp_all <;> omega) | (split <;> first | (exfalso; omega) | (simp_all; done)))); (focus (simp; done))) | (simp_all [pf22]; done) | (simp_all [pf22]; omega) | (split at h2 <;> first | (exfalso; omega) | (simp_all [pf22]; done))

def refOkF (b g k m : Int) : Bool := decide (0 ≤ b) && decide (0 ≤ g) && (decide (1 ≤ k) && decide (k ≤ 2)) && (decide (1 ≤ m) && decide (m ≤ 1000000000))

@[simp] theorem t82 (x_Buf x_Gen x_Kind x_First x_Many : Int) : Gw TT 82 [.st [.ro false (di x_Buf), .ro false (di x_Gen), .ro false (di x_Kind), .ro false (di x_First), .ro false (di x_Many)]] = some (vb (refOkF x_Buf x_Gen x_Kind x_Many), []) := by
  refine Gw_of (F := pf82) rfl rfl ?_
  show Wp _ pb82 _ _
  unfold pb82
  repeat' (first
    | with_reducible (first | refine wp_seq ?_ | refine wp_blk ?_ | refine wp_skip ?_ | refine wp_exit ?_ | refine wp_ret ?_ | refine seqQ_norm ?_ | refine seqQ_ret ?_ | refine seqQ_exit ?_ | refine blkQ_norm ?_ | refine blkQ_ret ?_ | refine blkQ_exit ?_ | refine loopQ_norm ?_ | refine loopQ_exit ?_ | refine loopQ_ret ?_ | refine endQ_ret ?_ | refine endQ_norm ?_ | refine endE_ret ?_ | refine endE_norm ?_ | refine endI_ret ?_ | refine endI_norm ?_)
    | (with_reducible refine wp_regK fun K hK => ?_
       simp
       repeat' (with_reducible first | refine hK _ ?_ | (refine psel ?_ ?_ <;> (intro hc; (try rw [Decidable.not_not] at hc); first | (exfalso; omega) | (try simp [hc]))))
       all_goals (clear hK; clear K))
    | (with_reducible refine wp_condE ?_
       refine ⟨_, rfl, ?_, ?_⟩ <;> (intro hc; (try simp at hc); (all_goals first | (exfalso; omega) | skip))))
  all_goals first | (simp_all [pf82, refOkF]; done) | (simp [pf82, refOkF]; omega) | (simp_all [pf82, refOkF]; omega)

@[simp] theorem t370 (x_Buf x_Gen x_Kind x_First x_Many : Int) : Gw TT 370 [.st [.ro false (di x_Buf), .ro false (di x_Gen), .ro false (di x_Kind), .ro false (di x_First), .ro false (di x_Many)]] = some (vb (refOkF x_Buf x_Gen x_Kind x_Many), []) := by
  refine Gw_of (F := pf370) rfl rfl ?_
  show Wp _ pb370 _ _
  unfold pb370
  repeat' (first
    | with_reducible (first | refine wp_seq ?_ | refine wp_blk ?_ | refine wp_skip ?_ | refine wp_exit ?_ | refine wp_ret ?_ | refine seqQ_norm ?_ | refine seqQ_ret ?_ | refine seqQ_exit ?_ | refine blkQ_norm ?_ | refine blkQ_ret ?_ | refine blkQ_exit ?_ | refine loopQ_norm ?_ | refine loopQ_exit ?_ | refine loopQ_ret ?_ | refine endQ_ret ?_ | refine endQ_norm ?_ | refine endE_ret ?_ | refine endE_norm ?_ | refine endI_ret ?_ | refine endI_norm ?_)
    | (with_reducible refine wp_regK fun K hK => ?_
       simp
       repeat' (with_reducible first | refine hK _ ?_ | (refine psel ?_ ?_ <;> (intro hc; (try rw [Decidable.not_not] at hc); first | (exfalso; omega) | (try simp [hc]))))
       all_goals (clear hK; clear K))
    | (with_reducible refine wp_condE ?_
       refine ⟨_, rfl, ?_, ?_⟩ <;> (intro hc; (try simp at hc); (all_goals first | (exfalso; omega) | skip))))
  all_goals first | (simp_all [pf370, refOkF]; done) | (simp [pf370, refOkF]; omega) | (simp_all [pf370, refOkF]; omega)

@[simp] theorem take_mid {α : Type} {n : Nat} (l r : List α) (h : n = l.length) : (l ++ r).take n = l := by subst h; simp

def dirB : List XRef → Int → List XRef → Bool
  | _, _, [] => true
  | p, e, r :: l => if refOkF r.Buf r.Gen r.Kind r.Many = true ∧ r.First = e ∧ hasBufF r.Buf p = false then dirB (p ++ [r]) (IntKind.wrap .i64 (e + r.Many)) l else false
def dirOkB (v : Int) (l : List XRef) : Bool := decide (0 ≤ v) && decide ((l.length : Int) ≤ 8) && dirB [] 0 l

theorem t15g (k0 : Bool) (x_Ver : Int) (x_L : List XRef) (h : x_L.length ≤ 1048577) : Gw TT 15 [.st [.ro false (di x_Ver), .ro k0 (.sl 5 (x_L.map XRef.e))]] = some (vb (dirOkB x_Ver x_L), []) := by
  refine Gw_of (F := pf15) rfl rfl ?_
  show Wp _ pb15 _ _
  unfold pb15
  repeat' (first
    | with_reducible (first | refine wp_seq ?_ | refine wp_blk ?_ | refine wp_skip ?_ | refine wp_exit ?_ | refine wp_ret ?_ | refine seqQ_norm ?_ | refine seqQ_ret ?_ | refine seqQ_exit ?_ | refine blkQ_norm ?_ | refine blkQ_ret ?_ | refine blkQ_exit ?_ | refine loopQ_norm ?_ | refine loopQ_exit ?_ | refine loopQ_ret ?_ | refine endQ_ret ?_ | refine endQ_norm ?_ | refine endE_ret ?_ | refine endE_norm ?_ | refine endI_ret ?_ | refine endI_norm ?_)
    | (with_reducible refine wp_regK fun K hK => ?_
       simp
       repeat' (with_reducible first | refine hK _ ?_ | (refine psel ?_ ?_ <;> (intro hc; (try rw [Decidable.not_not] at hc); first | (exfalso; omega) | (try simp [hc]))))
       all_goals (clear hK; clear K))
    | (with_reducible refine wp_condE ?_
       refine ⟨_, rfl, ?_, ?_⟩ <;> (intro hc; (try simp at hc); (all_goals first | (exfalso; omega) | skip))))
  all_goals first | (simp_all [pf15, dirOkB]; done) | (simp [pf15, dirOkB]; omega) | skip
  refine wp_loopI (σ := List XRef × List XRef × Int) (fun s => [(1, AV.bx 1 0, some (Rt.bx [.ro false (di x_Ver), .ro k0 (.sl 5 (x_L.map XRef.e))])), (3, AV.v false (di s.2.2), none), (16, AV.v k0 (D.sl 5 (x_L.map XRef.e)), none), (17, AV.v false (di (x_L.length : Nat)), none), (18, AV.v false (di ((s.1.length : Nat) : Int)), none)]) (fun s => x_L = s.1 ++ s.2.1 ∧ dirB s.1 s.2.2 s.2.1 = dirB [] 0 x_L) (fun s => s.2.1.length) ([], x_L, 0) (by simp) ⟨rfl, rfl⟩ ?_
  rintro ⟨pre, rest, a⟩ ⟨h1, h2⟩
  simp only at h1 h2
  subst h1
  simp only [List.length_append, List.length_cons] at h
  rcases rest with _ | ⟨d, rest⟩
  · unfold pl15_0
    simp only [dirB] at h2
    repeat' (first
      | with_reducible (first | refine wp_seq ?_ | refine wp_blk ?_ | refine wp_skip ?_ | refine wp_exit ?_ | refine wp_ret ?_ | refine seqQ_norm ?_ | refine seqQ_ret ?_ | refine seqQ_exit ?_ | refine blkQ_norm ?_ | refine blkQ_ret ?_ | refine blkQ_exit ?_ | refine loopQ_norm ?_ | refine loopQ_exit ?_ | refine loopQ_ret ?_ | refine endQ_ret ?_ | refine endQ_norm ?_ | refine endE_ret ?_ | refine endE_norm ?_ | refine endI_ret ?_ | refine endI_norm ?_)
      | (with_reducible refine wp_regK fun K hK => ?_
         simp
         repeat' (with_reducible first | refine hK _ ?_ | (refine psel ?_ ?_ <;> (intro hc; (try rw [Decidable.not_not] at hc); first | (exfalso; omega) | (try simp [hc]))))
         all_goals (clear hK; clear K))
      | (with_reducible refine wp_condE ?_
         refine ⟨_, rfl, ?_, ?_⟩ <;> (intro hc; (try simp at hc); (all_goals first | (exfalso; omega) | skip))))
    all_goals first | (simp_all [pf15, dirOkB]; done) | (simp_all [pf15, dirOkB]; omega)
  · unfold pl15_0
    simp only [List.length_cons] at h
    simp only [dirB] at h2
    have hw : IntKind.wrap .i64 ((pre.length : Int) + 1) = (pre.length : Int) + 1 := wrap_i64 (by omega) (by omega)
    have hb : ((pre.length : Int) ≤ (pre.length : Int) + ((rest.length : Int) + 1)) := by omega
    have hl : pre.length ≤ 1048576 := by omega
    repeat' (first
      | with_reducible (first | refine wp_seq ?_ | refine wp_blk ?_ | refine wp_skip ?_ | refine wp_exit ?_ | refine wp_ret ?_ | refine seqQ_norm ?_ | refine seqQ_ret ?_ | refine seqQ_exit ?_ | refine blkQ_norm ?_ | refine blkQ_ret ?_ | refine blkQ_exit ?_ | refine loopQ_norm ?_ | refine loopQ_exit ?_ | refine loopQ_ret ?_ | refine endQ_ret ?_ | refine endQ_norm ?_ | refine endE_ret ?_ | refine endE_norm ?_ | refine endI_ret ?_ | refine endI_norm ?_)
      | (with_reducible refine wp_regK fun K hK => ?_
         simp[hw, hb, hl]
         repeat' (with_reducible first | refine hK _ ?_ | (refine psel ?_ ?_ <;> (intro hc; (try rw [Decidable.not_not] at hc); first | (exfalso; omega) | (try simp [hc, hw, hb, hl]))))
         all_goals (clear hK; clear K))
      | (with_reducible refine wp_condE ?_
         refine ⟨_, rfl, ?_, ?_⟩ <;> (intro hc; (try simp at hc); (all_goals first | (exfalso; omega) | skip))))
    all_goals first | (refine ⟨(pre ++ [d], rest, IntKind.wrap .i64 (a + d.Many)), ?_, ⟨?_, ?_⟩, ?_⟩; (focus (first | (simp; done) | (simp_all; done))); (focus (simp; done)); (focus (refine Eq.trans ?_ h2; clear h2; first | (simp [*]; done) | (simp_all; done))); (focus (simp; done))) | (simp_all [pf15, dirOkB]; done)

@[simp] theorem t15 (k0 : Bool) (x_Ver : Int) (x_L : List XRef) (h : x_L.length ≤ 1048576) : Gw TT 15 [.st [.ro false (di x_Ver), .ro k0 (.sl 5 (x_L.map XRef.e))]] = some (vb (dirOkB x_Ver x_L), []) := t15g k0 x_Ver x_L (by omega)

theorem t271g (k0 : Bool) (x_Ver : Int) (x_L : List XRef) (h : x_L.length ≤ 1048577) : Gw TT 271 [.st [.ro false (di x_Ver), .ro k0 (.sl 5 (x_L.map XRef.e))]] = some (vb (dirOkB x_Ver x_L), []) := by
  refine Gw_of (F := pf271) rfl rfl ?_
  show Wp _ pb271 _ _
  unfold pb271
  repeat' (first
    | with_reducible (first | refine wp_seq ?_ | refine wp_blk ?_ | refine wp_skip ?_ | refine wp_exit ?_ | refine wp_ret ?_ | refine seqQ_norm ?_ | refine seqQ_ret ?_ | refine seqQ_exit ?_ | refine blkQ_norm ?_ | refine blkQ_ret ?_ | refine blkQ_exit ?_ | refine loopQ_norm ?_ | refine loopQ_exit ?_ | refine loopQ_ret ?_ | refine endQ_ret ?_ | refine endQ_norm ?_ | refine endE_ret ?_ | refine endE_norm ?_ | refine endI_ret ?_ | refine endI_norm ?_)
    | (with_reducible refine wp_regK fun K hK => ?_
       simp
       repeat' (with_reducible first | refine hK _ ?_ | (refine psel ?_ ?_ <;> (intro hc; (try rw [Decidable.not_not] at hc); first | (exfalso; omega) | (try simp [hc]))))
       all_goals (clear hK; clear K))
    | (with_reducible refine wp_condE ?_
       refine ⟨_, rfl, ?_, ?_⟩ <;> (intro hc; (try simp at hc); (all_goals first | (exfalso; omega) | skip))))
  all_goals first | (simp_all [pf271, dirOkB]; done) | (simp [pf271, dirOkB]; omega) | skip
  refine wp_loopI (σ := List XRef × List XRef × Int) (fun s => [(1, AV.bx 1 0, some (Rt.bx [.ro false (di x_Ver), .ro k0 (.sl 5 (x_L.map XRef.e))])), (3, AV.v false (di s.2.2), none), (4, AV.v false (di ((s.1.length : Nat) : Int)), none)]) (fun s => x_L = s.1 ++ s.2.1 ∧ dirB s.1 s.2.2 s.2.1 = dirB [] 0 x_L) (fun s => s.2.1.length) ([], x_L, 0) (by simp) ⟨rfl, rfl⟩ ?_
  rintro ⟨pre, rest, a⟩ ⟨h1, h2⟩
  simp only at h1 h2
  subst h1
  simp only [List.length_append, List.length_cons] at h
  rcases rest with _ | ⟨d, rest⟩
  · unfold pl271_1
    simp only [dirB] at h2
    repeat' (first
      | with_reducible (first | refine wp_seq ?_ | refine wp_blk ?_ | refine wp_skip ?_ | refine wp_exit ?_ | refine wp_ret ?_ | refine seqQ_norm ?_ | refine seqQ_ret ?_ | refine seqQ_exit ?_ | refine blkQ_norm ?_ | refine blkQ_ret ?_ | refine blkQ_exit ?_ | refine loopQ_norm ?_ | refine loopQ_exit ?_ | refine loopQ_ret ?_ | refine endQ_ret ?_ | refine endQ_norm ?_ | refine endE_ret ?_ | refine endE_norm ?_ | refine endI_ret ?_ | refine endI_norm ?_)
      | (with_reducible refine wp_regK fun K hK => ?_
         simp
         repeat' (with_reducible first | refine hK _ ?_ | (refine psel ?_ ?_ <;> (intro hc; (try rw [Decidable.not_not] at hc); first | (exfalso; omega) | (try simp [hc]))))
         all_goals (clear hK; clear K))
      | (with_reducible refine wp_condE ?_
         refine ⟨_, rfl, ?_, ?_⟩ <;> (intro hc; (try simp at hc); (all_goals first | (exfalso; omega) | skip))))
    all_goals first | (simp_all [pf271, dirOkB]; done) | (simp_all [pf271, dirOkB]; omega)
  · unfold pl271_1
    simp only [List.length_cons] at h
    simp only [dirB] at h2
    have hw : IntKind.wrap .i64 ((pre.length : Int) + 1) = (pre.length : Int) + 1 := wrap_i64 (by omega) (by omega)
    repeat' (first
      | with_reducible (first | refine wp_seq ?_ | refine wp_blk ?_ | refine wp_skip ?_ | refine wp_exit ?_ | refine wp_ret ?_ | refine seqQ_norm ?_ | refine seqQ_ret ?_ | refine seqQ_exit ?_ | refine blkQ_norm ?_ | refine blkQ_ret ?_ | refine blkQ_exit ?_ | refine loopQ_norm ?_ | refine loopQ_exit ?_ | refine loopQ_ret ?_ | refine endQ_ret ?_ | refine endQ_norm ?_ | refine endE_ret ?_ | refine endE_norm ?_ | refine endI_ret ?_ | refine endI_norm ?_)
      | (with_reducible refine wp_regK fun K hK => ?_
         simp[hw]
         repeat' (with_reducible first | refine hK _ ?_ | (refine psel ?_ ?_ <;> (intro hc; (try rw [Decidable.not_not] at hc); first | (exfalso; omega) | (try simp [hc, hw]))))
         all_goals (clear hK; clear K))
      | (with_reducible refine wp_condE ?_
         refine ⟨_, rfl, ?_, ?_⟩ <;> (intro hc; (try simp at hc); (all_goals first | (exfalso; omega) | skip))))
    all_goals first | (simp_all [pf271, dirOkB]; done) | skip
    have hr : refOkF d.Buf d.Gen d.Kind d.Many = true := by simpa using ‹¬refOkF d.Buf d.Gen d.Kind d.Many = false›
    have hd : d.First = a := by assumption
    refine wp_loopI (σ := List XRef × List XRef) (fun s => [(1, AV.bx 1 0, some (Rt.bx [.ro false (di x_Ver), .ro k0 (.sl 5 ((pre ++ d :: rest).map XRef.e))])), (3, AV.v false (di (IntKind.wrap .i64 (a + d.Many))), none), (4, AV.v false (di ((pre.length : Nat) : Int)), none), (5, AV.v false (di ((s.1.length : Nat) : Int)), none)]) (fun s => pre = s.1 ++ s.2 ∧ hasBufF d.Buf s.2 = hasBufF d.Buf pre) (fun s => s.2.length) ([], pre) (by simp) ⟨rfl, rfl⟩ ?_
    rintro ⟨p1, p2⟩ ⟨h3, h4⟩
    simp only at h3 h4
    rcases p2 with _ | ⟨e, p2⟩
    · simp only [List.append_nil] at h3
      subst h3
      unfold pl271_0
      simp only [hasBufF] at h4
      repeat' (first
        | with_reducible (first | refine wp_seq ?_ | refine wp_blk ?_ | refine wp_skip ?_ | refine wp_exit ?_ | refine wp_ret ?_ | refine seqQ_norm ?_ | refine seqQ_ret ?_ | refine seqQ_exit ?_ | refine blkQ_norm ?_ | refine blkQ_ret ?_ | refine blkQ_exit ?_ | refine loopQ_norm ?_ | refine loopQ_exit ?_ | refine loopQ_ret ?_ | refine endQ_ret ?_ | refine endQ_norm ?_ | refine endE_ret ?_ | refine endE_norm ?_ | refine endI_ret ?_ | refine endI_norm ?_)
        | (with_reducible refine wp_regK fun K hK => ?_
           simp[hw]
           repeat' (with_reducible first | refine hK _ ?_ | (refine psel ?_ ?_ <;> (intro hc; (try rw [Decidable.not_not] at hc); first | (exfalso; omega) | (try simp [hc, hw]))))
           all_goals (clear hK; clear K))
        | (with_reducible refine wp_condE ?_
           refine ⟨_, rfl, ?_, ?_⟩ <;> (intro hc; (try simp at hc); (all_goals first | (exfalso; omega) | skip))))
      all_goals first | (refine ⟨(pre ++ [d], rest, IntKind.wrap .i64 (a + d.Many)), ?_, ⟨?_, ?_⟩, ?_⟩; (focus (first | (simp; done) | (simp_all; done))); (focus (simp; done)); (focus (refine Eq.trans ?_ h2; clear h2; rw [if_pos ⟨hr, hd, h4.symm⟩])); (focus (simp; done)))
    · unfold pl271_0
      simp only [hasBufF] at h4
      subst h3
      simp only [List.length_append, List.length_cons] at h hw
      have hv : IntKind.wrap .i64 ((p1.length : Int) + 1) = (p1.length : Int) + 1 := wrap_i64 (by omega) (by omega)
      have hn : ((p1.length : Int) + ((p2.length : Int) + 1)).toNat = p1.length + (p2.length + 1) := by omega
      have hx4 : (List.map XRef.e p1 ++ [di e.Buf, di e.Gen, di e.Kind, di e.First, di e.Many] :: (List.map XRef.e p2 ++ [di d.Buf, di d.Gen, di d.Kind, di d.First, di d.Many] :: List.map XRef.e rest))[p1.length + (p2.length + 1)]? = some [di d.Buf, di d.Gen, di d.Kind, di d.First, di d.Many] := by
        rw [List.getElem?_append_right (by simp), List.length_map, Nat.add_sub_cancel_left, List.getElem?_cons_succ]
        exact get_mid _ _ _ (by simp)
      repeat' (first
        | with_reducible (first | refine wp_seq ?_ | refine wp_blk ?_ | refine wp_skip ?_ | refine wp_exit ?_ | refine wp_ret ?_ | refine seqQ_norm ?_ | refine seqQ_ret ?_ | refine seqQ_exit ?_ | refine blkQ_norm ?_ | refine blkQ_ret ?_ | refine blkQ_exit ?_ | refine loopQ_norm ?_ | refine loopQ_exit ?_ | refine loopQ_ret ?_ | refine endQ_ret ?_ | refine endQ_norm ?_ | refine endE_ret ?_ | refine endE_norm ?_ | refine endI_ret ?_ | refine endI_norm ?_)
        | (with_reducible refine wp_regK fun K hK => ?_
           simp[hv, hn, hx4]
           repeat' (with_reducible first | refine hK _ ?_ | (refine psel ?_ ?_ <;> (intro hc; (try rw [Decidable.not_not] at hc); first | (exfalso; omega) | (try simp [hc, hv, hn, hx4]))))
           all_goals (clear hK; clear K))
        | (with_reducible refine wp_condE ?_
           refine ⟨_, rfl, ?_, ?_⟩ <;> (intro hc; (try simp at hc); (all_goals first | (exfalso; omega) | skip))))
      · have h5 : hasBufF d.Buf (p1 ++ e :: p2) = true := by simp_all
        have h6 : dirB [] 0 (p1 ++ e :: p2 ++ d :: rest) = false := by rw [← h2, if_neg (by simp [h5])]
        simp [pf271, dirOkB]
        simpa using fun _ _ => h6
      · refine ⟨(p1 ++ [e], p2), ?_, ⟨?_, ?_⟩, ?_⟩
        · first | (simp; done) | (simp_all; done)
        · simp
        · refine Eq.trans ?_ h4
          simp [*]
        · simp

@[simp] theorem t271 (k0 : Bool) (x_Ver : Int) (x_L : List XRef) (h : x_L.length ≤ 1048576) : Gw TT 271 [.st [.ro false (di x_Ver), .ro k0 (.sl 5 (x_L.map XRef.e))]] = some (vb (dirOkB x_Ver x_L), []) := t271g k0 x_Ver x_L (by omega)

@[simp] theorem bytesStr_map (l : List Int) : bytesStr (l.map eb) = some (l.map fun n => UInt8.ofNat n.toNat) := by
  induction l with
  | nil => rfl
  | cons n l ih =>
    have : bytesStr (List.map eb (n :: l)) = match bytesStr (l.map eb) with
      | some bs => some (UInt8.ofNat n.toNat :: bs)
      | none => none := rfl
    rw [this, ih]; rfl

@[simp] theorem flatD_nil : flatD [] = true := rfl

@[simp] theorem flatD_map {α : Type} (f : α → List D) (l : List α) (h : ∀ x, (f x).all D.scal = true) : flatD (l.map f) = true := by
  simp only [flatD, List.all_map, List.all_eq_true, Function.comp]
  exact fun x _ => List.all_eq_true.1 (h x)

@[simp] theorem flatD_one (e : List D) (l : List (List D)) : flatD (e :: l) = (e.all D.scal && flatD l) := rfl

@[simp] theorem flatD_app (l m : List (List D)) : flatD (l ++ m) = (flatD l && flatD m) := by simp [flatD]

@[simp] theorem live_int (k : IntKind) (n : Int) : (D.int k n).live = true := rfl

@[simp] theorem live_bool (b : Bool) : (D.bool b).live = true := rfl

@[simp] theorem live_str (s : ByteArray) : (D.str s).live = true := rfl

@[simp] theorem live_sl (sz : Nat) (es : List (List D)) : (D.sl sz es).live = true := rfl

@[simp] theorem ba_one (x : UInt8) : (ByteArray.mk #[x]).size = 1 := rfl

@[simp] theorem take_all1 {α : Type} {n : Nat} (l r : List α) (x : α) (h : n = l.length + (r.length + 1)) : (l ++ x :: r).take n = l ++ x :: r := by
  rw [List.take_of_length_le]
  simp only [List.length_append, List.length_cons]
  omega

@[simp] theorem drop_mid1 {α : Type} {n : Nat} (l r : List α) (x : α) (h : n = l.length + 1) : (l ++ x :: r).drop n = r := by
  subst h
  rw [List.drop_append]
  simp

@[simp] theorem take_len_map {α β : Type} (f : α → β) (l : List α) : (l.map f).take l.length = l.map f := by
  rw [List.take_of_length_le]; simp

@[simp] theorem flatD_drop_map {α : Type} (f : α → List D) (l : List α) (n : Nat) (h : ∀ x, (f x).all D.scal = true) : flatD ((l.map f).drop n) = true := by
  rw [← List.map_drop]; exact flatD_map f _ h

@[simp] theorem flatD_take_map {α : Type} (f : α → List D) (l : List α) (n : Nat) (h : ∀ x, (f x).all D.scal = true) : flatD ((l.map f).take n) = true := by
  rw [← List.map_take]; exact flatD_map f _ h

@[simp] theorem t74 (k0 : Bool) (l : List XRef) (h : l.length ≤ 1048576) : Gw TT 74 [.one (.ro k0 (.sl 5 (l.map XRef.e)))] = some (.one (.own (.sl 5 (l.map XRef.e))), []) := by
  refine Gw_of (F := pf74) rfl rfl ?_
  show Wp _ pb74 _ _
  unfold pb74
  repeat' (first
    | with_reducible (first | refine wp_seq ?_ | refine wp_blk ?_ | refine wp_skip ?_ | refine wp_exit ?_ | refine wp_ret ?_ | refine seqQ_norm ?_ | refine seqQ_ret ?_ | refine seqQ_exit ?_ | refine blkQ_norm ?_ | refine blkQ_ret ?_ | refine blkQ_exit ?_ | refine loopQ_norm ?_ | refine loopQ_exit ?_ | refine loopQ_ret ?_ | refine endQ_ret ?_ | refine endQ_norm ?_ | refine endE_ret ?_ | refine endE_norm ?_ | refine endI_ret ?_ | refine endI_norm ?_)
    | (with_reducible refine wp_regK fun K hK => ?_
       simp[h]
       repeat' (with_reducible first | refine hK _ ?_ | (refine psel ?_ ?_ <;> (intro hc; (try rw [Decidable.not_not] at hc); first | (exfalso; omega) | (try simp [hc, h]))))
       all_goals (clear hK; clear K))
    | (with_reducible refine wp_condE ?_
       refine ⟨_, rfl, ?_, ?_⟩ <;> (intro hc; (try simp at hc); (all_goals first | (exfalso; omega) | skip))))
  all_goals first | (simp [pf74]; done) | (exfalso; omega)

@[simp] theorem t71 (k0 : Bool) (x_Ver : Int) (x_L : List XRef) (h : x_L.length ≤ 1048576) : Gw TT 71 [.st [.ro false (di x_Ver), .ro k0 (.sl 5 (x_L.map XRef.e))]] = some (.st [.ro false (di x_Ver), .own (.sl 5 (x_L.map XRef.e))], []) := by
  refine Gw_of (F := pf71) rfl rfl ?_
  show Wp _ pb71 _ _
  unfold pb71
  have hq : x_L.length * 40 ≤ 70368744177664 := by omega
  repeat' (first
    | with_reducible (first | refine wp_seq ?_ | refine wp_blk ?_ | refine wp_skip ?_ | refine wp_exit ?_ | refine wp_ret ?_ | refine seqQ_norm ?_ | refine seqQ_ret ?_ | refine seqQ_exit ?_ | refine blkQ_norm ?_ | refine blkQ_ret ?_ | refine blkQ_exit ?_ | refine loopQ_norm ?_ | refine loopQ_exit ?_ | refine loopQ_ret ?_ | refine endQ_ret ?_ | refine endQ_norm ?_ | refine endE_ret ?_ | refine endE_norm ?_ | refine endI_ret ?_ | refine endI_norm ?_)
    | (with_reducible refine wp_regK fun K hK => ?_
       simp[h, hq]
       repeat' (with_reducible first | refine hK _ ?_ | (refine psel ?_ ?_ <;> (intro hc; (try rw [Decidable.not_not] at hc); first | (exfalso; omega) | (try simp [hc, h, hq]))))
       all_goals (clear hK; clear K))
    | (with_reducible refine wp_condE ?_
       refine ⟨_, rfl, ?_, ?_⟩ <;> (intro hc; (try simp at hc); (all_goals first | (exfalso; omega) | skip))))
  all_goals first | (simp [pf71]; done) | (exfalso; omega)

@[simp] theorem t368 (k0 : Bool) (x_Ver : Int) (x_L : List XRef) (h : x_L.length ≤ 1048576) : Gw TT 368 [.st [.ro false (di x_Ver), .ro k0 (.sl 5 (x_L.map XRef.e))]] = some (.st [.ro false (di x_Ver), .own (.sl 5 (x_L.map XRef.e))], []) := by
  refine Gw_of (F := pf368) rfl rfl ?_
  show Wp _ pb368 _ _
  unfold pb368
  have hq : x_L.length * 40 ≤ 70368744177664 := by omega
  repeat' (first
    | with_reducible (first | refine wp_seq ?_ | refine wp_blk ?_ | refine wp_skip ?_ | refine wp_exit ?_ | refine wp_ret ?_ | refine seqQ_norm ?_ | refine seqQ_ret ?_ | refine seqQ_exit ?_ | refine blkQ_norm ?_ | refine blkQ_ret ?_ | refine blkQ_exit ?_ | refine loopQ_norm ?_ | refine loopQ_exit ?_ | refine loopQ_ret ?_ | refine endQ_ret ?_ | refine endQ_norm ?_ | refine endE_ret ?_ | refine endE_norm ?_ | refine endI_ret ?_ | refine endI_norm ?_)
    | (with_reducible refine wp_regK fun K hK => ?_
       simp[h, hq]
       repeat' (with_reducible first | refine hK _ ?_ | (refine psel ?_ ?_ <;> (intro hc; (try rw [Decidable.not_not] at hc); first | (exfalso; omega) | (try simp [hc, h, hq]))))
       all_goals (clear hK; clear K))
    | (with_reducible refine wp_condE ?_
       refine ⟨_, rfl, ?_, ?_⟩ <;> (intro hc; (try simp at hc); (all_goals first | (exfalso; omega) | skip))))
  all_goals first | (simp [pf368]; done) | (exfalso; omega)

def swL (i n : Int) (l : List XRef) (r : XRef) : List XRef := l.take i.toNat ++ r :: l.drop (i.toNat + n.toNat)

def swR (i n : Int) (l : List XRef) : Bool := decide (0 ≤ i ∧ i < (l.length : Int) ∧ 1 ≤ n ∧ n ≤ (l.length : Int) - i)

def swOk (v i n : Int) (l : List XRef) (r : XRef) : Bool := swR i n l && (dirOkB (IntKind.wrap .i64 (v + 1)) (swL i n l r) && (endOfF (swL i n l r) == endOfF l))

def swV (v i n : Int) (l : List XRef) (r : XRef) : Int := if swOk v i n l r = true then IntKind.wrap .i64 (v + 1) else v

def swD (v i n : Int) (l : List XRef) (r : XRef) : List XRef := if swOk v i n l r = true then swL i n l r else l

theorem swL_len {i n : Int} {l : List XRef} (r : XRef) (h : swR i n l = true) : (swL i n l r).length ≤ l.length := by
  simp only [swR, decide_eq_true_eq] at h
  simp only [swL, List.length_append, List.length_cons, List.length_take, List.length_drop]
  omega

theorem swD_len (v i n : Int) (l : List XRef) (r : XRef) (h : l.length ≤ 1048576) : (swD v i n l r).length ≤ 1048576 := by
  unfold swD
  split
  · rename_i hA
    simp only [swOk, Bool.and_eq_true] at hA
    exact Nat.le_trans (swL_len r hA.1) h
  · exact h

@[simp] theorem t56 (k0 : Bool) (x_Ver : Int) (x_L : List XRef) (i n : Int) (r_Buf : Int) (r_Gen : Int) (r_Kind : Int) (r_First : Int) (r_Many : Int) (h : x_L.length ≤ 1048576) : Gw TT 56 [.st [.ro false (di x_Ver), .ro k0 (.sl 5 (x_L.map XRef.e))], vi i, vi n, .st [.ro false (di r_Buf), .ro false (di r_Gen), .ro false (di r_Kind), .ro false (di r_First), .ro false (di r_Many)]] = some (.tup [.st [.ro false (di (swV x_Ver i n x_L ⟨r_Buf, r_Gen, r_Kind, r_First, r_Many⟩)), .own (.sl 5 ((swD x_Ver i n x_L ⟨r_Buf, r_Gen, r_Kind, r_First, r_Many⟩).map XRef.e))], vb (swOk x_Ver i n x_L ⟨r_Buf, r_Gen, r_Kind, r_First, r_Many⟩)], []) := by
  refine Gw_of (F := pf56) rfl rfl ?_
  show Wp _ pb56 _ _
  unfold pb56
  by_cases hb : 0 ≤ i ∧ i < (x_L.length : Int) ∧ 1 ≤ n ∧ n ≤ (x_L.length : Int) - i
  · obtain ⟨a, rfl⟩ : ∃ a : Nat, i = (a : Int) := ⟨i.toNat, by omega⟩
    obtain ⟨b, rfl⟩ : ∃ b : Nat, n = (b : Int) := ⟨n.toNat, by omega⟩
    have hR : swR (a : Int) (b : Int) x_L = true := by simp only [swR, decide_eq_true_eq]; exact hb
    have hl := swL_len ⟨r_Buf, r_Gen, r_Kind, r_First, r_Many⟩ hR
    have g1 := t15g true (IntKind.wrap .i64 (x_Ver + 1)) (swL (a : Int) (b : Int) x_L ⟨r_Buf, r_Gen, r_Kind, r_First, r_Many⟩) (by omega)
    have g2 := t16 true (IntKind.wrap .i64 (x_Ver + 1)) (swL (a : Int) (b : Int) x_L ⟨r_Buf, r_Gen, r_Kind, r_First, r_Many⟩) (by omega)
    have hw1 : IntKind.wrap .i64 ((x_L.length : Int) - 1) = (x_L.length : Int) - 1 := wrap_i64 (by omega) (by omega)
    have hw2 : IntKind.wrap .i64 ((x_L.length : Int) - (a : Int)) = (x_L.length : Int) - (a : Int) := wrap_i64 (by omega) (by omega)
    have hw3 : IntKind.wrap .i64 ((a : Int) + (b : Int)) = (a : Int) + (b : Int) := wrap_i64 (by omega) (by omega)
    have hn : ((a : Int) + (b : Int)).toNat = a + b := by omega
    have hm : min a x_L.length = a := by omega
    have g0 := t74 k0 (x_L.take a) (by simp only [List.length_take]; omega)
    simp only [List.map_take] at g0
    have hq1 : a * 40 ≤ 70368744177664 := by omega
    have hq2 : (a + 1) * 40 ≤ 70368744177664 := by omega
    have hq3 : (a + 1 + (x_L.length - (a + b))) * 40 ≤ 70368744177664 := by omega
    have hq4 : (a + ((x_L.length - (a + b)) + 1)) * 40 ≤ 70368744177664 := by omega
    have hb1 : a ≤ x_L.length := by omega
    have hb2 : (a : Int) + (b : Int) ≤ (x_L.length : Int) := by omega
    have hb3 : (0 : Int) ≤ (a : Int) + (b : Int) := by omega
    have hb4 : (a : Int) < (x_L.length : Int) := by omega
    have hb5 : a < x_L.length := by omega
    cases hA : dirOkB (IntKind.wrap .i64 (x_Ver + 1)) (swL (a : Int) (b : Int) x_L ⟨r_Buf, r_Gen, r_Kind, r_First, r_Many⟩) with
    | true =>
      cases hD : (endOfF (swL (a : Int) (b : Int) x_L ⟨r_Buf, r_Gen, r_Kind, r_First, r_Many⟩) == endOfF x_L) with
      | true =>
        have hO : swOk x_Ver (a : Int) (b : Int) x_L ⟨r_Buf, r_Gen, r_Kind, r_First, r_Many⟩ = true := by simp [swOk, hR, hA, hD]
        rw [hA] at g1
        rw [beq_iff_eq] at hD
        rw [hD] at g2
        simp only [swL, Int.toNat_natCast, List.map_append, List.map_cons, List.map_take, List.map_drop, XRef.e] at g1 g2
        repeat' (first
          | with_reducible (first | refine wp_seq ?_ | refine wp_blk ?_ | refine wp_skip ?_ | refine wp_exit ?_ | refine wp_ret ?_ | refine seqQ_norm ?_ | refine seqQ_ret ?_ | refine seqQ_exit ?_ | refine blkQ_norm ?_ | refine blkQ_ret ?_ | refine blkQ_exit ?_ | refine loopQ_norm ?_ | refine loopQ_exit ?_ | refine loopQ_ret ?_ | refine endQ_ret ?_ | refine endQ_norm ?_ | refine endE_ret ?_ | refine endE_norm ?_ | refine endI_ret ?_ | refine endI_norm ?_)
          | (with_reducible refine wp_regK fun K hK => ?_
             simp[g0, g1, g2, h, hw1, hw2, hw3, hn, hm, hq1, hq2, hq3, hq4, hb1, hb2, hb3, hb4, hb5]
             repeat' (with_reducible first | refine hK _ ?_ | (refine psel ?_ ?_ <;> (intro hc; (try rw [Decidable.not_not] at hc); first | (exfalso; omega) | (try simp [hc, g0, g1, g2, h, hw1, hw2, hw3, hn, hm, hq1, hq2, hq3, hq4, hb1, hb2, hb3, hb4, hb5]))))
             all_goals (clear hK; clear K))
          | (with_reducible refine wp_condE ?_
             refine ⟨_, rfl, ?_, ?_⟩ <;> (intro hc; (try simp at hc); (all_goals first | (exfalso; omega) | skip))))
        all_goals first | (simp [pf56, swV, swD, swL, hO]; done) | (exfalso; omega)
      | false =>
        have hO : swOk x_Ver (a : Int) (b : Int) x_L ⟨r_Buf, r_Gen, r_Kind, r_First, r_Many⟩ = false := by simp [swOk, hR, hA, hD]
        rw [hA] at g1
        have hD' : ¬ endOfF (swL (a : Int) (b : Int) x_L ⟨r_Buf, r_Gen, r_Kind, r_First, r_Many⟩) = endOfF x_L := by simpa using hD
        generalize endOfF (swL (a : Int) (b : Int) x_L ⟨r_Buf, r_Gen, r_Kind, r_First, r_Many⟩) = E at g2 hD'
        simp only [swL, Int.toNat_natCast, List.map_append, List.map_cons, List.map_take, List.map_drop, XRef.e] at g1 g2
        repeat' (first
          | with_reducible (first | refine wp_seq ?_ | refine wp_blk ?_ | refine wp_skip ?_ | refine wp_exit ?_ | refine wp_ret ?_ | refine seqQ_norm ?_ | refine seqQ_ret ?_ | refine seqQ_exit ?_ | refine blkQ_norm ?_ | refine blkQ_ret ?_ | refine blkQ_exit ?_ | refine loopQ_norm ?_ | refine loopQ_exit ?_ | refine loopQ_ret ?_ | refine endQ_ret ?_ | refine endQ_norm ?_ | refine endE_ret ?_ | refine endE_norm ?_ | refine endI_ret ?_ | refine endI_norm ?_)
          | (with_reducible refine wp_regK fun K hK => ?_
             simp[g0, g1, g2, h, hw1, hw2, hw3, hn, hm, hq1, hq2, hq3, hq4, hb1, hb2, hb3, hb4, hb5, hD']
             repeat' (with_reducible first | refine hK _ ?_ | (refine psel ?_ ?_ <;> (intro hc; (try rw [Decidable.not_not] at hc); first | (exfalso; omega) | (try simp [hc, g0, g1, g2, h, hw1, hw2, hw3, hn, hm, hq1, hq2, hq3, hq4, hb1, hb2, hb3, hb4, hb5, hD']))))
             all_goals (clear hK; clear K))
          | (with_reducible refine wp_condE ?_
             refine ⟨_, rfl, ?_, ?_⟩ <;> (intro hc; (try simp at hc); (all_goals first | (exfalso; omega) | skip))))
        all_goals first | (simp [pf56, swV, swD, swL, hO]; done) | (exfalso; omega) | (exfalso; exact hD' (by assumption))
    | false =>
      have hO : swOk x_Ver (a : Int) (b : Int) x_L ⟨r_Buf, r_Gen, r_Kind, r_First, r_Many⟩ = false := by simp [swOk, hR, hA]
      rw [hA] at g1
      simp only [swL, Int.toNat_natCast, List.map_append, List.map_cons, List.map_take, List.map_drop, XRef.e] at g1 g2
      repeat' (first
        | with_reducible (first | refine wp_seq ?_ | refine wp_blk ?_ | refine wp_skip ?_ | refine wp_exit ?_ | refine wp_ret ?_ | refine seqQ_norm ?_ | refine seqQ_ret ?_ | refine seqQ_exit ?_ | refine blkQ_norm ?_ | refine blkQ_ret ?_ | refine blkQ_exit ?_ | refine loopQ_norm ?_ | refine loopQ_exit ?_ | refine loopQ_ret ?_ | refine endQ_ret ?_ | refine endQ_norm ?_ | refine endE_ret ?_ | refine endE_norm ?_ | refine endI_ret ?_ | refine endI_norm ?_)
        | (with_reducible refine wp_regK fun K hK => ?_
           simp[g0, g1, g2, h, hw1, hw2, hw3, hn, hm, hq1, hq2, hq3, hq4, hb1, hb2, hb3, hb4, hb5]
           repeat' (with_reducible first | refine hK _ ?_ | (refine psel ?_ ?_ <;> (intro hc; (try rw [Decidable.not_not] at hc); first | (exfalso; omega) | (try simp [hc, g0, g1, g2, h, hw1, hw2, hw3, hn, hm, hq1, hq2, hq3, hq4, hb1, hb2, hb3, hb4, hb5]))))
           all_goals (clear hK; clear K))
        | (with_reducible refine wp_condE ?_
           refine ⟨_, rfl, ?_, ?_⟩ <;> (intro hc; (try simp at hc); (all_goals first | (exfalso; omega) | skip))))
      all_goals first | (simp [pf56, swV, swD, swL, hO]; done) | (exfalso; omega)
  · have hO : swOk x_Ver i n x_L ⟨r_Buf, r_Gen, r_Kind, r_First, r_Many⟩ = false := by
      have : swR i n x_L = false := by simp only [swR, decide_eq_false_iff_not]; exact hb
      simp [swOk, this]
    have hw1 : IntKind.wrap .i64 ((x_L.length : Int) - 1) = (x_L.length : Int) - 1 := wrap_i64 (by omega) (by omega)
    by_cases h0 : 0 ≤ i ∧ i ≤ (x_L.length : Int)
    · have hw2 : IntKind.wrap .i64 ((x_L.length : Int) - i) = (x_L.length : Int) - i := wrap_i64 (by omega) (by omega)
      repeat' (first
        | with_reducible (first | refine wp_seq ?_ | refine wp_blk ?_ | refine wp_skip ?_ | refine wp_exit ?_ | refine wp_ret ?_ | refine seqQ_norm ?_ | refine seqQ_ret ?_ | refine seqQ_exit ?_ | refine blkQ_norm ?_ | refine blkQ_ret ?_ | refine blkQ_exit ?_ | refine loopQ_norm ?_ | refine loopQ_exit ?_ | refine loopQ_ret ?_ | refine endQ_ret ?_ | refine endQ_norm ?_ | refine endE_ret ?_ | refine endE_norm ?_ | refine endI_ret ?_ | refine endI_norm ?_)
        | (with_reducible refine wp_regK fun K hK => ?_
           simp[h, hw1, hw2]
           repeat' (with_reducible first | refine hK _ ?_ | (refine psel ?_ ?_ <;> (intro hc; (try rw [Decidable.not_not] at hc); first | (exfalso; omega) | (try simp [hc, h, hw1, hw2]))))
           all_goals (clear hK; clear K))
        | (with_reducible refine wp_condE ?_
           refine ⟨_, rfl, ?_, ?_⟩ <;> (intro hc; (try simp at hc); (all_goals first | (exfalso; omega) | skip))))
      all_goals first | (simp [pf56, swV, swD, hO]; done) | (exfalso; omega)
    · repeat' (first
        | with_reducible (first | refine wp_seq ?_ | refine wp_blk ?_ | refine wp_skip ?_ | refine wp_exit ?_ | refine wp_ret ?_ | refine seqQ_norm ?_ | refine seqQ_ret ?_ | refine seqQ_exit ?_ | refine blkQ_norm ?_ | refine blkQ_ret ?_ | refine blkQ_exit ?_ | refine loopQ_norm ?_ | refine loopQ_exit ?_ | refine loopQ_ret ?_ | refine endQ_ret ?_ | refine endQ_norm ?_ | refine endE_ret ?_ | refine endE_norm ?_ | refine endI_ret ?_ | refine endI_norm ?_)
        | (with_reducible refine wp_regK fun K hK => ?_
           simp[h, hw1]
           repeat' (with_reducible first | refine hK _ ?_ | (refine psel ?_ ?_ <;> (intro hc; (try rw [Decidable.not_not] at hc); first | (exfalso; omega) | (try simp [hc, h, hw1]))))
           all_goals (clear hK; clear K))
        | (with_reducible refine wp_condE ?_
           refine ⟨_, rfl, ?_, ?_⟩ <;> (intro hc; (try simp at hc); (all_goals first | (exfalso; omega) | skip))))
      all_goals first | (simp [pf56, swV, swD, hO]; done) | (exfalso; omega)

@[simp] theorem t337 (k0 : Bool) (x_Ver : Int) (x_L : List XRef) (i n : Int) (r_Buf : Int) (r_Gen : Int) (r_Kind : Int) (r_First : Int) (r_Many : Int) (h : x_L.length ≤ 1048576) : Gw TT 337 [.st [.ro false (di x_Ver), .ro k0 (.sl 5 (x_L.map XRef.e))], vi i, vi n, .st [.ro false (di r_Buf), .ro false (di r_Gen), .ro false (di r_Kind), .ro false (di r_First), .ro false (di r_Many)]] = some (.tup [.st [.ro false (di (swV x_Ver i n x_L ⟨r_Buf, r_Gen, r_Kind, r_First, r_Many⟩)), .own (.sl 5 ((swD x_Ver i n x_L ⟨r_Buf, r_Gen, r_Kind, r_First, r_Many⟩).map XRef.e))], vb (swOk x_Ver i n x_L ⟨r_Buf, r_Gen, r_Kind, r_First, r_Many⟩)], []) := by
  refine Gw_of (F := pf337) rfl rfl ?_
  show Wp _ pb337 _ _
  unfold pb337
  by_cases hb : 0 ≤ i ∧ i < (x_L.length : Int) ∧ 1 ≤ n ∧ n ≤ (x_L.length : Int) - i
  · obtain ⟨a, rfl⟩ : ∃ a : Nat, i = (a : Int) := ⟨i.toNat, by omega⟩
    obtain ⟨b, rfl⟩ : ∃ b : Nat, n = (b : Int) := ⟨n.toNat, by omega⟩
    have hR : swR (a : Int) (b : Int) x_L = true := by simp only [swR, decide_eq_true_eq]; exact hb
    have hl := swL_len ⟨r_Buf, r_Gen, r_Kind, r_First, r_Many⟩ hR
    have g1 := t271g true (IntKind.wrap .i64 (x_Ver + 1)) (swL (a : Int) (b : Int) x_L ⟨r_Buf, r_Gen, r_Kind, r_First, r_Many⟩) (by omega)
    have g2 := t296 true (IntKind.wrap .i64 (x_Ver + 1)) (swL (a : Int) (b : Int) x_L ⟨r_Buf, r_Gen, r_Kind, r_First, r_Many⟩) (by omega)
    have hw1 : IntKind.wrap .i64 ((x_L.length : Int) - 1) = (x_L.length : Int) - 1 := wrap_i64 (by omega) (by omega)
    have hw2 : IntKind.wrap .i64 ((x_L.length : Int) - (a : Int)) = (x_L.length : Int) - (a : Int) := wrap_i64 (by omega) (by omega)
    have hw3 : IntKind.wrap .i64 ((a : Int) + (b : Int)) = (a : Int) + (b : Int) := wrap_i64 (by omega) (by omega)
    have hn : ((a : Int) + (b : Int)).toNat = a + b := by omega
    have hm : min a x_L.length = a := by omega
    have g0 := t74 k0 (x_L.take a) (by simp only [List.length_take]; omega)
    simp only [List.map_take] at g0
    have hq1 : a * 40 ≤ 70368744177664 := by omega
    have hq2 : (a + 1) * 40 ≤ 70368744177664 := by omega
    have hq3 : (a + 1 + (x_L.length - (a + b))) * 40 ≤ 70368744177664 := by omega
    have hq4 : (a + ((x_L.length - (a + b)) + 1)) * 40 ≤ 70368744177664 := by omega
    have hb1 : a ≤ x_L.length := by omega
    have hb2 : (a : Int) + (b : Int) ≤ (x_L.length : Int) := by omega
    have hb3 : (0 : Int) ≤ (a : Int) + (b : Int) := by omega
    have hb4 : (a : Int) < (x_L.length : Int) := by omega
    have hb5 : a < x_L.length := by omega
    cases hA : dirOkB (IntKind.wrap .i64 (x_Ver + 1)) (swL (a : Int) (b : Int) x_L ⟨r_Buf, r_Gen, r_Kind, r_First, r_Many⟩) with
    | true =>
      cases hD : (endOfF (swL (a : Int) (b : Int) x_L ⟨r_Buf, r_Gen, r_Kind, r_First, r_Many⟩) == endOfF x_L) with
      | true =>
        have hO : swOk x_Ver (a : Int) (b : Int) x_L ⟨r_Buf, r_Gen, r_Kind, r_First, r_Many⟩ = true := by simp [swOk, hR, hA, hD]
        rw [hA] at g1
        rw [beq_iff_eq] at hD
        rw [hD] at g2
        simp only [swL, Int.toNat_natCast, List.map_append, List.map_cons, List.map_take, List.map_drop, XRef.e] at g1 g2
        repeat' (first
          | with_reducible (first | refine wp_seq ?_ | refine wp_blk ?_ | refine wp_skip ?_ | refine wp_exit ?_ | refine wp_ret ?_ | refine seqQ_norm ?_ | refine seqQ_ret ?_ | refine seqQ_exit ?_ | refine blkQ_norm ?_ | refine blkQ_ret ?_ | refine blkQ_exit ?_ | refine loopQ_norm ?_ | refine loopQ_exit ?_ | refine loopQ_ret ?_ | refine endQ_ret ?_ | refine endQ_norm ?_ | refine endE_ret ?_ | refine endE_norm ?_ | refine endI_ret ?_ | refine endI_norm ?_)
          | (with_reducible refine wp_regK fun K hK => ?_
             simp[g0, g1, g2, h, hw1, hw2, hw3, hn, hm, hq1, hq2, hq3, hq4, hb1, hb2, hb3, hb4, hb5]
             repeat' (with_reducible first | refine hK _ ?_ | (refine psel ?_ ?_ <;> (intro hc; (try rw [Decidable.not_not] at hc); first | (exfalso; omega) | (try simp [hc, g0, g1, g2, h, hw1, hw2, hw3, hn, hm, hq1, hq2, hq3, hq4, hb1, hb2, hb3, hb4, hb5]))))
             all_goals (clear hK; clear K))
          | (with_reducible refine wp_condE ?_
             refine ⟨_, rfl, ?_, ?_⟩ <;> (intro hc; (try simp at hc); (all_goals first | (exfalso; omega) | skip))))
        all_goals first | (simp [pf337, swV, swD, swL, hO]; done) | (exfalso; omega)
      | false =>
        have hO : swOk x_Ver (a : Int) (b : Int) x_L ⟨r_Buf, r_Gen, r_Kind, r_First, r_Many⟩ = false := by simp [swOk, hR, hA, hD]
        rw [hA] at g1
        have hD' : ¬ endOfF (swL (a : Int) (b : Int) x_L ⟨r_Buf, r_Gen, r_Kind, r_First, r_Many⟩) = endOfF x_L := by simpa using hD
        generalize endOfF (swL (a : Int) (b : Int) x_L ⟨r_Buf, r_Gen, r_Kind, r_First, r_Many⟩) = E at g2 hD'
        simp only [swL, Int.toNat_natCast, List.map_append, List.map_cons, List.map_take, List.map_drop, XRef.e] at g1 g2
        repeat' (first
          | with_reducible (first | refine wp_seq ?_ | refine wp_blk ?_ | refine wp_skip ?_ | refine wp_exit ?_ | refine wp_ret ?_ | refine seqQ_norm ?_ | refine seqQ_ret ?_ | refine seqQ_exit ?_ | refine blkQ_norm ?_ | refine blkQ_ret ?_ | refine blkQ_exit ?_ | refine loopQ_norm ?_ | refine loopQ_exit ?_ | refine loopQ_ret ?_ | refine endQ_ret ?_ | refine endQ_norm ?_ | refine endE_ret ?_ | refine endE_norm ?_ | refine endI_ret ?_ | refine endI_norm ?_)
          | (with_reducible refine wp_regK fun K hK => ?_
             simp[g0, g1, g2, h, hw1, hw2, hw3, hn, hm, hq1, hq2, hq3, hq4, hb1, hb2, hb3, hb4, hb5, hD']
             repeat' (with_reducible first | refine hK _ ?_ | (refine psel ?_ ?_ <;> (intro hc; (try rw [Decidable.not_not] at hc); first | (exfalso; omega) | (try simp [hc, g0, g1, g2, h, hw1, hw2, hw3, hn, hm, hq1, hq2, hq3, hq4, hb1, hb2, hb3, hb4, hb5, hD']))))
             all_goals (clear hK; clear K))
          | (with_reducible refine wp_condE ?_
             refine ⟨_, rfl, ?_, ?_⟩ <;> (intro hc; (try simp at hc); (all_goals first | (exfalso; omega) | skip))))
        all_goals first | (simp [pf337, swV, swD, swL, hO]; done) | (exfalso; omega) | (exfalso; exact hD' (by assumption))
    | false =>
      have hO : swOk x_Ver (a : Int) (b : Int) x_L ⟨r_Buf, r_Gen, r_Kind, r_First, r_Many⟩ = false := by simp [swOk, hR, hA]
      rw [hA] at g1
      simp only [swL, Int.toNat_natCast, List.map_append, List.map_cons, List.map_take, List.map_drop, XRef.e] at g1 g2
      repeat' (first
        | with_reducible (first | refine wp_seq ?_ | refine wp_blk ?_ | refine wp_skip ?_ | refine wp_exit ?_ | refine wp_ret ?_ | refine seqQ_norm ?_ | refine seqQ_ret ?_ | refine seqQ_exit ?_ | refine blkQ_norm ?_ | refine blkQ_ret ?_ | refine blkQ_exit ?_ | refine loopQ_norm ?_ | refine loopQ_exit ?_ | refine loopQ_ret ?_ | refine endQ_ret ?_ | refine endQ_norm ?_ | refine endE_ret ?_ | refine endE_norm ?_ | refine endI_ret ?_ | refine endI_norm ?_)
        | (with_reducible refine wp_regK fun K hK => ?_
           simp[g0, g1, g2, h, hw1, hw2, hw3, hn, hm, hq1, hq2, hq3, hq4, hb1, hb2, hb3, hb4, hb5]
           repeat' (with_reducible first | refine hK _ ?_ | (refine psel ?_ ?_ <;> (intro hc; (try rw [Decidable.not_not] at hc); first | (exfalso; omega) | (try simp [hc, g0, g1, g2, h, hw1, hw2, hw3, hn, hm, hq1, hq2, hq3, hq4, hb1, hb2, hb3, hb4, hb5]))))
           all_goals (clear hK; clear K))
        | (with_reducible refine wp_condE ?_
           refine ⟨_, rfl, ?_, ?_⟩ <;> (intro hc; (try simp at hc); (all_goals first | (exfalso; omega) | skip))))
      all_goals first | (simp [pf337, swV, swD, swL, hO]; done) | (exfalso; omega)
  · have hO : swOk x_Ver i n x_L ⟨r_Buf, r_Gen, r_Kind, r_First, r_Many⟩ = false := by
      have : swR i n x_L = false := by simp only [swR, decide_eq_false_iff_not]; exact hb
      simp [swOk, this]
    have hw1 : IntKind.wrap .i64 ((x_L.length : Int) - 1) = (x_L.length : Int) - 1 := wrap_i64 (by omega) (by omega)
    by_cases h0 : 0 ≤ i ∧ i ≤ (x_L.length : Int)
    · have hw2 : IntKind.wrap .i64 ((x_L.length : Int) - i) = (x_L.length : Int) - i := wrap_i64 (by omega) (by omega)
      repeat' (first
        | with_reducible (first | refine wp_seq ?_ | refine wp_blk ?_ | refine wp_skip ?_ | refine wp_exit ?_ | refine wp_ret ?_ | refine seqQ_norm ?_ | refine seqQ_ret ?_ | refine seqQ_exit ?_ | refine blkQ_norm ?_ | refine blkQ_ret ?_ | refine blkQ_exit ?_ | refine loopQ_norm ?_ | refine loopQ_exit ?_ | refine loopQ_ret ?_ | refine endQ_ret ?_ | refine endQ_norm ?_ | refine endE_ret ?_ | refine endE_norm ?_ | refine endI_ret ?_ | refine endI_norm ?_)
        | (with_reducible refine wp_regK fun K hK => ?_
           simp[h, hw1, hw2]
           repeat' (with_reducible first | refine hK _ ?_ | (refine psel ?_ ?_ <;> (intro hc; (try rw [Decidable.not_not] at hc); first | (exfalso; omega) | (try simp [hc, h, hw1, hw2]))))
           all_goals (clear hK; clear K))
        | (with_reducible refine wp_condE ?_
           refine ⟨_, rfl, ?_, ?_⟩ <;> (intro hc; (try simp at hc); (all_goals first | (exfalso; omega) | skip))))
      all_goals first | (simp [pf337, swV, swD, hO]; done) | (exfalso; omega)
    · repeat' (first
        | with_reducible (first | refine wp_seq ?_ | refine wp_blk ?_ | refine wp_skip ?_ | refine wp_exit ?_ | refine wp_ret ?_ | refine seqQ_norm ?_ | refine seqQ_ret ?_ | refine seqQ_exit ?_ | refine blkQ_norm ?_ | refine blkQ_ret ?_ | refine blkQ_exit ?_ | refine loopQ_norm ?_ | refine loopQ_exit ?_ | refine loopQ_ret ?_ | refine endQ_ret ?_ | refine endQ_norm ?_ | refine endE_ret ?_ | refine endE_norm ?_ | refine endI_ret ?_ | refine endI_norm ?_)
        | (with_reducible refine wp_regK fun K hK => ?_
           simp[h, hw1]
           repeat' (with_reducible first | refine hK _ ?_ | (refine psel ?_ ?_ <;> (intro hc; (try rw [Decidable.not_not] at hc); first | (exfalso; omega) | (try simp [hc, h, hw1]))))
           all_goals (clear hK; clear K))
        | (with_reducible refine wp_condE ?_
           refine ⟨_, rfl, ?_, ?_⟩ <;> (intro hc; (try simp at hc); (all_goals first | (exfalso; omega) | skip))))
      all_goals first | (simp [pf337, swV, swD, hO]; done) | (exfalso; omega)

structure XCur where
  b : List Int
  i : Nat
  h : Int
  hb : b.length ≤ 1048576

theorem and255 (x : Nat) : 0 ≤ IntKind.wrap .i64 ((x &&& 255 % 2 ^ IntKind.i64.bits : Nat) : Int) ∧ IntKind.wrap .i64 ((x &&& 255 % 2 ^ IntKind.i64.bits : Nat) : Int) ≤ 255 := by
  have h0 : 255 % 2 ^ IntKind.i64.bits = 255 := by decide
  rw [h0]
  have h : x &&& 255 ≤ 255 := Nat.and_le_right
  rw [wrap_i64 (by omega) (by omega)]
  omega

theorem d379_ex (k0 : Bool) (b : List Int) (hb : b.length ≤ 1048576) : ∃ h : Int, Gw TT 379 [.one (.ro k0 (.sl 1 (b.map eb)))] = some (.ptr [.ro k0 (.sl 1 (b.map eb)), .ro false (di 0), .ro false (di h)], []) := by
  suffices h0 : ∃ y, Gw TT 379 [.one (.ro k0 (.sl 1 (b.map eb)))] = some y ∧ ∃ h : Int, y = (.ptr [.ro k0 (.sl 1 (b.map eb)), .ro false (di 0), .ro false (di h)], []) by
    obtain ⟨y, h1, h, rfl⟩ := h0
    exact ⟨h, h1⟩
  refine Gw_ofE (F := pf379) rfl rfl ?_
  show Wp _ pb379 _ _
  unfold pb379
  repeat' (first
    | with_reducible (first | refine wp_seq ?_ | refine wp_blk ?_ | refine wp_skip ?_ | refine wp_exit ?_ | refine wp_ret ?_ | refine seqQ_norm ?_ | refine seqQ_ret ?_ | refine seqQ_exit ?_ | refine blkQ_norm ?_ | refine blkQ_ret ?_ | refine blkQ_exit ?_ | refine loopQ_norm ?_ | refine loopQ_exit ?_ | refine loopQ_ret ?_ | refine endQ_ret ?_ | refine endQ_norm ?_ | refine endE_ret ?_ | refine endE_norm ?_ | refine endI_ret ?_ | refine endI_norm ?_)
    | (with_reducible refine wp_regK fun K hK => ?_
       simp
       repeat' (with_reducible first | refine hK _ ?_ | (refine psel ?_ ?_ <;> (intro hc; (try rw [Decidable.not_not] at hc); first | (exfalso; omega) | (try simp [hc]))))
       all_goals (clear hK; clear K))
    | (with_reducible refine wp_condE ?_
       refine ⟨_, rfl, ?_, ?_⟩ <;> (intro hc; (try simp at hc); (all_goals first | (exfalso; omega) | skip))))
  refine wp_loopI (σ := List Int × List Int × Int) (fun s => [(0, AV.v k0 (D.sl 1 (b.map eb)), none), (3, AV.v false (di s.2.2), none), (4, AV.v false (di ((s.1.length : Nat) : Int)), none)]) (fun s => b = s.1 ++ s.2.1) (fun s => s.2.1.length) ([], b, IntKind.wrap .i64 (154242 + (b.length : Int))) (by simp) rfl ?_
  rintro ⟨pre, rest, a⟩ h1
  simp only at h1
  subst h1
  simp only [List.length_append, List.length_cons] at hb
  rcases rest with _ | ⟨d, rest⟩
  · unfold pl379_0
    repeat' (first
      | with_reducible (first | refine wp_seq ?_ | refine wp_blk ?_ | refine wp_skip ?_ | refine wp_exit ?_ | refine wp_ret ?_ | refine seqQ_norm ?_ | refine seqQ_ret ?_ | refine seqQ_exit ?_ | refine blkQ_norm ?_ | refine blkQ_ret ?_ | refine blkQ_exit ?_ | refine loopQ_norm ?_ | refine loopQ_exit ?_ | refine loopQ_ret ?_ | refine endQ_ret ?_ | refine endQ_norm ?_ | refine endE_ret ?_ | refine endE_norm ?_ | refine endI_ret ?_ | refine endI_norm ?_)
      | (with_reducible refine wp_regK fun K hK => ?_
         simp
         repeat' (with_reducible first | refine hK _ ?_ | (refine psel ?_ ?_ <;> (intro hc; (try rw [Decidable.not_not] at hc); first | (exfalso; omega) | (try simp [hc]))))
         all_goals (clear hK; clear K))
      | (with_reducible refine wp_condE ?_
         refine ⟨_, rfl, ?_, ?_⟩ <;> (intro hc; (try simp at hc); (all_goals first | (exfalso; omega) | skip))))
    all_goals exact ⟨_, by simp [pf379]; rfl, a, by simp⟩
  · unfold pl379_0
    simp only [List.length_cons] at hb
    have hw : IntKind.wrap .i64 ((pre.length : Int) + 1) = (pre.length : Int) + 1 := wrap_i64 (by omega) (by omega)
    repeat' (first
      | with_reducible (first | refine wp_seq ?_ | refine wp_blk ?_ | refine wp_skip ?_ | refine wp_exit ?_ | refine wp_ret ?_ | refine seqQ_norm ?_ | refine seqQ_ret ?_ | refine seqQ_exit ?_ | refine blkQ_norm ?_ | refine blkQ_ret ?_ | refine blkQ_exit ?_ | refine loopQ_norm ?_ | refine loopQ_exit ?_ | refine loopQ_ret ?_ | refine endQ_ret ?_ | refine endQ_norm ?_ | refine endE_ret ?_ | refine endE_norm ?_ | refine endI_ret ?_ | refine endI_norm ?_)
      | (with_reducible refine wp_regK fun K hK => ?_
         simp[hw]
         repeat' (with_reducible first | refine hK _ ?_ | (refine psel ?_ ?_ <;> (intro hc; (try rw [Decidable.not_not] at hc); first | (exfalso; omega) | (try simp [hc, hw]))))
         all_goals (clear hK; clear K))
      | (with_reducible refine wp_condE ?_
         refine ⟨_, rfl, ?_, ?_⟩ <;> (intro hc; (try simp at hc); (all_goals first | (exfalso; omega) | skip))))
    all_goals first | exact ⟨(pre ++ [d], rest, _), by simp; rfl, by simp, by simp⟩ | exact ⟨_, by simp [pf379]; rfl, a, by simp⟩

noncomputable def newC (b : List Int) (hb : b.length ≤ 1048576) : XCur := ⟨b, 0, Classical.choose (d379_ex false b hb), hb⟩

@[simp] theorem t379 (b : List Int) (hb : b.length ≤ 1048576) : Gw TT 379 [.one (.ro false (.sl 1 (b.map eb)))] = some (.ptr [.ro false (.sl 1 ((newC b hb).b.map eb)), .ro false (di ((newC b hb).i : Nat)), .ro false (di (newC b hb).h)], []) := Classical.choose_spec (d379_ex false b hb)

theorem d376_ex (c : XCur)  : ∃ r : (Int) × XCur, Gw TT 376 [.ptr [.ro false (.sl 1 (c.b.map eb)), .ro false (di (c.i : Nat)), .ro false (di c.h)]] = some (vi r.1, [(0, 0, .ro false (.sl 1 (r.2.b.map eb))), (0, 1, .ro false (di (r.2.i : Nat))), (0, 2, .ro false (di r.2.h))]) ∧ (0 ≤ r.1 ∧ r.1 ≤ 255) := by
  suffices h0 : ∃ y, Gw TT 376 [.ptr [.ro false (.sl 1 (c.b.map eb)), .ro false (di (c.i : Nat)), .ro false (di c.h)]] = some y ∧ ∃ r : (Int) × XCur, y = (vi r.1, [(0, 0, .ro false (.sl 1 (r.2.b.map eb))), (0, 1, .ro false (di (r.2.i : Nat))), (0, 2, .ro false (di r.2.h))]) ∧ (0 ≤ r.1 ∧ r.1 ≤ 255) by
    obtain ⟨y, h1, r, rfl, h2⟩ := h0
    exact ⟨r, h1, h2⟩
  refine Gw_ofE (F := pf376) rfl rfl ?_
  show Wp _ pb376 _ _
  unfold pb376
  obtain ⟨b, i, h, hb⟩ := c
  by_cases hi : i < b.length
  · have hw : IntKind.wrap .i64 ((i : Int) + 1) = (i : Int) + 1 := wrap_i64 (by omega) (by omega)
    repeat' (first
      | with_reducible (first | refine wp_seq ?_ | refine wp_blk ?_ | refine wp_skip ?_ | refine wp_exit ?_ | refine wp_ret ?_ | refine seqQ_norm ?_ | refine seqQ_ret ?_ | refine seqQ_exit ?_ | refine blkQ_norm ?_ | refine blkQ_ret ?_ | refine blkQ_exit ?_ | refine loopQ_norm ?_ | refine loopQ_exit ?_ | refine loopQ_ret ?_ | refine endQ_ret ?_ | refine endQ_norm ?_ | refine endE_ret ?_ | refine endE_norm ?_ | refine endI_ret ?_ | refine endI_norm ?_)
      | (with_reducible refine wp_regK fun K hK => ?_
         simp[hi, hw]
         repeat' (with_reducible first | refine hK _ ?_ | (refine psel ?_ ?_ <;> (intro hc; (try rw [Decidable.not_not] at hc); first | (exfalso; omega) | (try simp [hc, hi, hw]))))
         all_goals (clear hK; clear K))
      | (with_reducible refine wp_condE ?_
         refine ⟨_, rfl, ?_, ?_⟩ <;> (intro hc; (try simp at hc); (all_goals first | (exfalso; omega) | skip))))
    all_goals first | (exfalso; omega) | (refine ⟨_, by simp [pf376]; rfl, ?_⟩; exact ⟨(_, ⟨b, i + 1, _, hb⟩), rfl, and255 _⟩)
  · repeat' (first
      | with_reducible (first | refine wp_seq ?_ | refine wp_blk ?_ | refine wp_skip ?_ | refine wp_exit ?_ | refine wp_ret ?_ | refine seqQ_norm ?_ | refine seqQ_ret ?_ | refine seqQ_exit ?_ | refine blkQ_norm ?_ | refine blkQ_ret ?_ | refine blkQ_exit ?_ | refine loopQ_norm ?_ | refine loopQ_exit ?_ | refine loopQ_ret ?_ | refine endQ_ret ?_ | refine endQ_norm ?_ | refine endE_ret ?_ | refine endE_norm ?_ | refine endI_ret ?_ | refine endI_norm ?_)
      | (with_reducible refine wp_regK fun K hK => ?_
         simp[hi]
         repeat' (with_reducible first | refine hK _ ?_ | (refine psel ?_ ?_ <;> (intro hc; (try rw [Decidable.not_not] at hc); first | (exfalso; omega) | (try simp [hc, hi]))))
         all_goals (clear hK; clear K))
      | (with_reducible refine wp_condE ?_
         refine ⟨_, rfl, ?_, ?_⟩ <;> (intro hc; (try simp at hc); (all_goals first | (exfalso; omega) | skip))))
    all_goals first | (exfalso; omega) | (refine ⟨_, by simp [pf376]; rfl, ?_⟩; exact ⟨(_, ⟨b, i, _, hb⟩), rfl, and255 _⟩)

noncomputable def d376 (c : XCur)  : (Int) × XCur := Classical.choose (d376_ex c)

@[simp] theorem t376 (c : XCur)  : Gw TT 376 [.ptr [.ro false (.sl 1 (c.b.map eb)), .ro false (di (c.i : Nat)), .ro false (di c.h)]] = some (vi (d376 c).1, [(0, 0, .ro false (.sl 1 ((d376 c).2.b.map eb))), (0, 1, .ro false (di ((d376 c).2.i : Nat))), (0, 2, .ro false (di (d376 c).2.h))]) := (Classical.choose_spec (d376_ex c)).1

theorem p376 (c : XCur)  : 0 ≤ (d376 c).1 ∧ (d376 c).1 ≤ 255 := (Classical.choose_spec (d376_ex c)).2

theorem tmod_lt {x n : Int} (h0 : 0 ≤ x) (h : 0 < n) : 0 ≤ x.tmod n ∧ x.tmod n < n := by
  rw [Int.tmod_eq_emod_of_nonneg h0]
  exact ⟨Int.emod_nonneg _ (by omega), Int.emod_lt_of_pos _ h⟩

theorem d375_ex (c : XCur) (n : Int) : ∃ r : (Int) × XCur, Gw TT 375 [.ptr [.ro false (.sl 1 (c.b.map eb)), .ro false (di (c.i : Nat)), .ro false (di c.h)], vi n] = some (vi r.1, [(0, 0, .ro false (.sl 1 (r.2.b.map eb))), (0, 1, .ro false (di (r.2.i : Nat))), (0, 2, .ro false (di r.2.h))]) ∧ (0 ≤ r.1 ∧ (0 < n → r.1 < n) ∧ (n ≤ 0 → r.1 = 0)) := by
  suffices h0 : ∃ y, Gw TT 375 [.ptr [.ro false (.sl 1 (c.b.map eb)), .ro false (di (c.i : Nat)), .ro false (di c.h)], vi n] = some y ∧ ∃ r : (Int) × XCur, y = (vi r.1, [(0, 0, .ro false (.sl 1 (r.2.b.map eb))), (0, 1, .ro false (di (r.2.i : Nat))), (0, 2, .ro false (di r.2.h))]) ∧ (0 ≤ r.1 ∧ (0 < n → r.1 < n) ∧ (n ≤ 0 → r.1 = 0)) by
    obtain ⟨y, h1, r, rfl, h2⟩ := h0
    exact ⟨r, h1, h2⟩
  refine Gw_ofE (F := pf375) rfl rfl ?_
  show Wp _ pb375 _ _
  unfold pb375
  by_cases h0 : n ≤ 0
  · repeat' (first
      | with_reducible (first | refine wp_seq ?_ | refine wp_blk ?_ | refine wp_skip ?_ | refine wp_exit ?_ | refine wp_ret ?_ | refine seqQ_norm ?_ | refine seqQ_ret ?_ | refine seqQ_exit ?_ | refine blkQ_norm ?_ | refine blkQ_ret ?_ | refine blkQ_exit ?_ | refine loopQ_norm ?_ | refine loopQ_exit ?_ | refine loopQ_ret ?_ | refine endQ_ret ?_ | refine endQ_norm ?_ | refine endE_ret ?_ | refine endE_norm ?_ | refine endI_ret ?_ | refine endI_norm ?_)
      | (with_reducible refine wp_regK fun K hK => ?_
         simp[h0]
         repeat' (with_reducible first | refine hK _ ?_ | (refine psel ?_ ?_ <;> (intro hc; (try rw [Decidable.not_not] at hc); first | (exfalso; omega) | (try simp [hc, h0]))))
         all_goals (clear hK; clear K))
      | (with_reducible refine wp_condE ?_
         refine ⟨_, rfl, ?_, ?_⟩ <;> (intro hc; (try simp at hc); (all_goals first | (exfalso; omega) | skip))))
    all_goals first | (exfalso; omega) | (refine ⟨_, by simp [pf375]; rfl, ?_⟩; exact ⟨(0, c), rfl, by omega, by omega, fun _ => rfl⟩)
  · have hn : n ≠ 0 := by omega
    by_cases h1 : n ≤ 256
    · have q := p376 c
      have q2 := tmod_lt (n := n) q.1 (by omega)
      repeat' (first
        | with_reducible (first | refine wp_seq ?_ | refine wp_blk ?_ | refine wp_skip ?_ | refine wp_exit ?_ | refine wp_ret ?_ | refine seqQ_norm ?_ | refine seqQ_ret ?_ | refine seqQ_exit ?_ | refine blkQ_norm ?_ | refine blkQ_ret ?_ | refine blkQ_exit ?_ | refine loopQ_norm ?_ | refine loopQ_exit ?_ | refine loopQ_ret ?_ | refine endQ_ret ?_ | refine endQ_norm ?_ | refine endE_ret ?_ | refine endE_norm ?_ | refine endI_ret ?_ | refine endI_norm ?_)
        | (with_reducible refine wp_regK fun K hK => ?_
           simp[h0, h1, hn]
           repeat' (with_reducible first | refine hK _ ?_ | (refine psel ?_ ?_ <;> (intro hc; (try rw [Decidable.not_not] at hc); first | (exfalso; omega) | (try simp [hc, h0, h1, hn]))))
           all_goals (clear hK; clear K))
        | (with_reducible refine wp_condE ?_
           refine ⟨_, rfl, ?_, ?_⟩ <;> (intro hc; (try simp at hc); (all_goals first | (exfalso; omega) | skip))))
      all_goals first | (exfalso; omega) | (refine ⟨_, by simp [pf375]; rfl, ?_⟩; exact ⟨(_, (d376 c).2), rfl, q2.1, fun _ => q2.2, fun h => absurd h h0⟩)
    · have q1 := p376 c
      have q2 := p376 (d376 c).2
      have q3 := p376 (d376 (d376 c).2).2
      have w1 : IntKind.wrap .i64 ((d376 c).1 * 65536) = (d376 c).1 * 65536 := wrap_i64 (by omega) (by omega)
      have w2 : IntKind.wrap .i64 ((d376 (d376 c).2).1 * 256) = (d376 (d376 c).2).1 * 256 := wrap_i64 (by omega) (by omega)
      have w3 : IntKind.wrap .i64 ((d376 c).1 * 65536 + (d376 (d376 c).2).1 * 256) = (d376 c).1 * 65536 + (d376 (d376 c).2).1 * 256 := wrap_i64 (by omega) (by omega)
      have w4 : IntKind.wrap .i64 ((d376 c).1 * 65536 + (d376 (d376 c).2).1 * 256 + (d376 (d376 (d376 c).2).2).1) = (d376 c).1 * 65536 + (d376 (d376 c).2).1 * 256 + (d376 (d376 (d376 c).2).2).1 := wrap_i64 (by omega) (by omega)
      have q4 := tmod_lt (x := (d376 c).1 * 65536 + (d376 (d376 c).2).1 * 256 + (d376 (d376 (d376 c).2).2).1) (n := n) (by omega) (by omega)
      repeat' (first
        | with_reducible (first | refine wp_seq ?_ | refine wp_blk ?_ | refine wp_skip ?_ | refine wp_exit ?_ | refine wp_ret ?_ | refine seqQ_norm ?_ | refine seqQ_ret ?_ | refine seqQ_exit ?_ | refine blkQ_norm ?_ | refine blkQ_ret ?_ | refine blkQ_exit ?_ | refine loopQ_norm ?_ | refine loopQ_exit ?_ | refine loopQ_ret ?_ | refine endQ_ret ?_ | refine endQ_norm ?_ | refine endE_ret ?_ | refine endE_norm ?_ | refine endI_ret ?_ | refine endI_norm ?_)
        | (with_reducible refine wp_regK fun K hK => ?_
           simp[h0, h1, hn, w1, w2, w3, w4]
           repeat' (with_reducible first | refine hK _ ?_ | (refine psel ?_ ?_ <;> (intro hc; (try rw [Decidable.not_not] at hc); first | (exfalso; omega) | (try simp [hc, h0, h1, hn, w1, w2, w3, w4]))))
           all_goals (clear hK; clear K))
        | (with_reducible refine wp_condE ?_
           refine ⟨_, rfl, ?_, ?_⟩ <;> (intro hc; (try simp at hc); (all_goals first | (exfalso; omega) | skip))))
      all_goals first | (exfalso; omega) | (refine ⟨_, by simp [pf375]; rfl, ?_⟩; exact ⟨(_, (d376 (d376 (d376 c).2).2).2), rfl, q4.1, fun _ => q4.2, fun h => absurd h h0⟩)

noncomputable def d375 (c : XCur) (n : Int) : (Int) × XCur := Classical.choose (d375_ex c n)

@[simp] theorem t375 (c : XCur) (n : Int) : Gw TT 375 [.ptr [.ro false (.sl 1 (c.b.map eb)), .ro false (di (c.i : Nat)), .ro false (di c.h)], vi n] = some (vi (d375 c n).1, [(0, 0, .ro false (.sl 1 ((d375 c n).2.b.map eb))), (0, 1, .ro false (di ((d375 c n).2.i : Nat))), (0, 2, .ro false (di (d375 c n).2.h))]) := (Classical.choose_spec (d375_ex c n)).1

theorem p375 (c : XCur) (n : Int) : 0 ≤ (d375 c n).1 ∧ (0 < n → (d375 c n).1 < n) ∧ (n ≤ 0 → (d375 c n).1 = 0) := (Classical.choose_spec (d375_ex c n)).2

theorem d382_ex (c : XCur) (n : Int) : ∃ r : (Bool) × XCur, Gw TT 382 [.ptr [.ro false (.sl 1 (c.b.map eb)), .ro false (di (c.i : Nat)), .ro false (di c.h)], vi n] = some (vb r.1, [(0, 0, .ro false (.sl 1 (r.2.b.map eb))), (0, 1, .ro false (di (r.2.i : Nat))), (0, 2, .ro false (di r.2.h))]) ∧ (True) := by
  suffices h0 : ∃ y, Gw TT 382 [.ptr [.ro false (.sl 1 (c.b.map eb)), .ro false (di (c.i : Nat)), .ro false (di c.h)], vi n] = some y ∧ ∃ r : (Bool) × XCur, y = (vb r.1, [(0, 0, .ro false (.sl 1 (r.2.b.map eb))), (0, 1, .ro false (di (r.2.i : Nat))), (0, 2, .ro false (di r.2.h))]) ∧ (True) by
    obtain ⟨y, h1, r, rfl, h2⟩ := h0
    exact ⟨r, h1, h2⟩
  refine Gw_ofE (F := pf382) rfl rfl ?_
  show Wp _ pb382 _ _
  unfold pb382
  repeat' (first
    | with_reducible (first | refine wp_seq ?_ | refine wp_blk ?_ | refine wp_skip ?_ | refine wp_exit ?_ | refine wp_ret ?_ | refine seqQ_norm ?_ | refine seqQ_ret ?_ | refine seqQ_exit ?_ | refine blkQ_norm ?_ | refine blkQ_ret ?_ | refine blkQ_exit ?_ | refine loopQ_norm ?_ | refine loopQ_exit ?_ | refine loopQ_ret ?_ | refine endQ_ret ?_ | refine endQ_norm ?_ | refine endE_ret ?_ | refine endE_norm ?_ | refine endI_ret ?_ | refine endI_norm ?_)
    | (with_reducible refine wp_regK fun K hK => ?_
       simp
       repeat' (with_reducible first | refine hK _ ?_ | (refine psel ?_ ?_ <;> (intro hc; (try rw [Decidable.not_not] at hc); first | (exfalso; omega) | (try simp [hc]))))
       all_goals (clear hK; clear K))
    | (with_reducible refine wp_condE ?_
       refine ⟨_, rfl, ?_, ?_⟩ <;> (intro hc; (try simp at hc); (all_goals first | (exfalso; omega) | skip))))
  all_goals (refine ⟨_, by simp [pf382]; rfl, ?_⟩; exact ⟨((d375 c n).1 == 0, (d375 c n).2), rfl, trivial⟩)

noncomputable def d382 (c : XCur) (n : Int) : (Bool) × XCur := Classical.choose (d382_ex c n)

@[simp] theorem t382 (c : XCur) (n : Int) : Gw TT 382 [.ptr [.ro false (.sl 1 (c.b.map eb)), .ro false (di (c.i : Nat)), .ro false (di c.h)], vi n] = some (vb (d382 c n).1, [(0, 0, .ro false (.sl 1 ((d382 c n).2.b.map eb))), (0, 1, .ro false (di ((d382 c n).2.i : Nat))), (0, 2, .ro false (di (d382 c n).2.h))]) := (Classical.choose_spec (d382_ex c n)).1

theorem d378_ex (c : XCur) (k0 : Bool) (L : List (List D)) (h0 : 0 < L.length) (h1 : L.length ≤ 256) (hL : ∀ e ∈ L, ∃ n : Int, e = [di n]) : ∃ r : (Int) × XCur, Gw TT 378 [.ptr [.ro false (.sl 1 (c.b.map eb)), .ro false (di (c.i : Nat)), .ro false (di c.h)], .one (.ro k0 (.sl 1 L))] = some (vi r.1, [(0, 0, .ro false (.sl 1 (r.2.b.map eb))), (0, 1, .ro false (di (r.2.i : Nat))), (0, 2, .ro false (di r.2.h))]) ∧ ([di r.1] ∈ L) := by
  suffices h0 : ∃ y, Gw TT 378 [.ptr [.ro false (.sl 1 (c.b.map eb)), .ro false (di (c.i : Nat)), .ro false (di c.h)], .one (.ro k0 (.sl 1 L))] = some y ∧ ∃ r : (Int) × XCur, y = (vi r.1, [(0, 0, .ro false (.sl 1 (r.2.b.map eb))), (0, 1, .ro false (di (r.2.i : Nat))), (0, 2, .ro false (di r.2.h))]) ∧ ([di r.1] ∈ L) by
    obtain ⟨y, h1, r, rfl, h2⟩ := h0
    exact ⟨r, h1, h2⟩
  refine Gw_ofE (F := pf378) rfl rfl ?_
  show Wp _ pb378 _ _
  unfold pb378
  obtain ⟨q1, q2, q3⟩ := p375 c (L.length : Int)
  have q4 := q2 (by omega)
  have hlt : (d375 c (L.length : Int)).1.toNat < L.length := by omega
  obtain ⟨x, hx⟩ := hL _ (List.getElem_mem hlt)
  have hx2 : L[(d375 c (L.length : Int)).1.toNat]? = some [di x] := by rw [List.getElem?_eq_getElem hlt, hx]
  repeat' (first
    | with_reducible (first | refine wp_seq ?_ | refine wp_blk ?_ | refine wp_skip ?_ | refine wp_exit ?_ | refine wp_ret ?_ | refine seqQ_norm ?_ | refine seqQ_ret ?_ | refine seqQ_exit ?_ | refine blkQ_norm ?_ | refine blkQ_ret ?_ | refine blkQ_exit ?_ | refine loopQ_norm ?_ | refine loopQ_exit ?_ | refine loopQ_ret ?_ | refine endQ_ret ?_ | refine endQ_norm ?_ | refine endE_ret ?_ | refine endE_norm ?_ | refine endI_ret ?_ | refine endI_norm ?_)
    | (with_reducible refine wp_regK fun K hK => ?_
       simp[q1, q4, hx2, hx]
       repeat' (with_reducible first | refine hK _ ?_ | (refine psel ?_ ?_ <;> (intro hc; (try rw [Decidable.not_not] at hc); first | (exfalso; omega) | (try simp [hc, q1, q4, hx2, hx]))))
       all_goals (clear hK; clear K))
    | (with_reducible refine wp_condE ?_
       refine ⟨_, rfl, ?_, ?_⟩ <;> (intro hc; (try simp at hc); (all_goals first | (exfalso; omega) | skip))))
  all_goals first | (exfalso; omega) | (refine ⟨_, by simp [pf378]; rfl, ?_⟩; exact ⟨(x, (d375 c (L.length : Int)).2), rfl, hx ▸ List.getElem_mem hlt⟩)

noncomputable def d378 (c : XCur) (k0 : Bool) (L : List (List D)) (h0 : 0 < L.length) (h1 : L.length ≤ 256) (hL : ∀ e ∈ L, ∃ n : Int, e = [di n]) : (Int) × XCur := Classical.choose (d378_ex c k0 L h0 h1 hL)

theorem t378 (c : XCur) (k0 : Bool) (L : List (List D)) (h0 : 0 < L.length) (h1 : L.length ≤ 256) (hL : ∀ e ∈ L, ∃ n : Int, e = [di n]) : Gw TT 378 [.ptr [.ro false (.sl 1 (c.b.map eb)), .ro false (di (c.i : Nat)), .ro false (di c.h)], .one (.ro k0 (.sl 1 L))] = some (vi (d378 c k0 L h0 h1 hL).1, [(0, 0, .ro false (.sl 1 ((d378 c k0 L h0 h1 hL).2.b.map eb))), (0, 1, .ro false (di ((d378 c k0 L h0 h1 hL).2.i : Nat))), (0, 2, .ro false (di (d378 c k0 L h0 h1 hL).2.h))]) := (Classical.choose_spec (d378_ex c k0 L h0 h1 hL)).1

theorem d369_ex (c : XCur)  : ∃ r : (XDir) × XCur, Gw TT 369 [.ptr [.ro false (.sl 1 (c.b.map eb)), .ro false (di (c.i : Nat)), .ro false (di c.h)]] = some (.st [.ro false (di r.1.Ver), .own (.sl 5 (r.1.L.map XRef.e))], [(0, 0, .ro false (.sl 1 (r.2.b.map eb))), (0, 1, .ro false (di (r.2.i : Nat))), (0, 2, .ro false (di r.2.h))]) ∧ (r.1.L.length ≤ 4) := by
  suffices h0 : ∃ y, Gw TT 369 [.ptr [.ro false (.sl 1 (c.b.map eb)), .ro false (di (c.i : Nat)), .ro false (di c.h)]] = some y ∧ ∃ r : (XDir) × XCur, y = (.st [.ro false (di r.1.Ver), .own (.sl 5 (r.1.L.map XRef.e))], [(0, 0, .ro false (.sl 1 (r.2.b.map eb))), (0, 1, .ro false (di (r.2.i : Nat))), (0, 2, .ro false (di r.2.h))]) ∧ (r.1.L.length ≤ 4) by
    obtain ⟨y, h1, r, rfl, h2⟩ := h0
    exact ⟨r, h1, h2⟩
  refine Gw_ofE (F := pf369) rfl rfl ?_
  show Wp _ pb369 _ _
  unfold pb369
  have q2 := p375 (d375 c 4).2 5
  have hn : ((d375 (d375 c 4).2 5).1.toNat : Int) = (d375 (d375 c 4).2 5).1 := Int.toNat_of_nonneg q2.1
  have q4 := q2.2.1 (by omega)
  repeat' (first
    | with_reducible (first | refine wp_seq ?_ | refine wp_blk ?_ | refine wp_skip ?_ | refine wp_exit ?_ | refine wp_ret ?_ | refine seqQ_norm ?_ | refine seqQ_ret ?_ | refine seqQ_exit ?_ | refine blkQ_norm ?_ | refine blkQ_ret ?_ | refine blkQ_exit ?_ | refine loopQ_norm ?_ | refine loopQ_exit ?_ | refine loopQ_ret ?_ | refine endQ_ret ?_ | refine endQ_norm ?_ | refine endE_ret ?_ | refine endE_norm ?_ | refine endI_ret ?_ | refine endI_norm ?_)
    | (with_reducible refine wp_regK fun K hK => ?_
       simp
       repeat' (with_reducible first | refine hK _ ?_ | (refine psel ?_ ?_ <;> (intro hc; (try rw [Decidable.not_not] at hc); first | (exfalso; omega) | (try simp [hc]))))
       all_goals (clear hK; clear K))
    | (with_reducible refine wp_condE ?_
       refine ⟨_, rfl, ?_, ?_⟩ <;> (intro hc; (try simp at hc); (all_goals first | (exfalso; omega) | skip))))
  refine wp_loopI (σ := Nat × List XRef × Int × XCur) (fun s => [(0, AV.bx 0 0, some (Rt.bx [.ro false (.sl 1 (s.2.2.2.b.map eb)), .ro false (di (s.2.2.2.i : Nat)), .ro false (di s.2.2.2.h)])), (2, AV.bx 2 0, some (Rt.bx [.ro false (di 0), .own (.sl 5 [])])), (3, AV.bx 3 0, some (Rt.bx [.ro false (di (d375 c 4).1), .own (.sl 5 (s.2.1.map XRef.e))])), (4, AV.v false (di s.2.2.1), none), (5, AV.v false (di (s.1 : Nat)), none)]) (fun s => s.1 + s.2.1.length ≤ 4) (fun s => s.1) ((d375 (d375 c 4).2 5).1.toNat, [], 0, (d375 (d375 c 4).2 5).2) (by simp [hn]) (by simp only [List.length_nil]; omega) ?_
  rintro ⟨n, acc, e, c1⟩ h1
  simp only at h1
  rcases n with _ | n
  · unfold pl369_0
    repeat' (first
      | with_reducible (first | refine wp_seq ?_ | refine wp_blk ?_ | refine wp_skip ?_ | refine wp_exit ?_ | refine wp_ret ?_ | refine seqQ_norm ?_ | refine seqQ_ret ?_ | refine seqQ_exit ?_ | refine blkQ_norm ?_ | refine blkQ_ret ?_ | refine blkQ_exit ?_ | refine loopQ_norm ?_ | refine loopQ_exit ?_ | refine loopQ_ret ?_ | refine endQ_ret ?_ | refine endQ_norm ?_ | refine endE_ret ?_ | refine endE_norm ?_ | refine endI_ret ?_ | refine endI_norm ?_)
      | (with_reducible refine wp_regK fun K hK => ?_
         simp
         repeat' (with_reducible first | refine hK _ ?_ | (refine psel ?_ ?_ <;> (intro hc; (try rw [Decidable.not_not] at hc); first | (exfalso; omega) | (try simp [hc]))))
         all_goals (clear hK; clear K))
      | (with_reducible refine wp_condE ?_
         refine ⟨_, rfl, ?_, ?_⟩ <;> (intro hc; (try simp at hc); (all_goals first | (exfalso; omega) | skip))))
    all_goals first | (exfalso; omega) | (refine ⟨_, by simp [pf369]; rfl, ?_⟩; exact ⟨((⟨(d375 c 4).1, acc⟩ : XDir), c1), rfl, by simp only; omega⟩)
  · unfold pl369_0
    have hwn : IntKind.wrap .i64 (n : Int) = (n : Int) := wrap_i64 (by omega) (by omega)
    have hq1 : (acc.length + 1) * 40 ≤ 70368744177664 := by omega
    repeat' (first
      | with_reducible (first | refine wp_seq ?_ | refine wp_blk ?_ | refine wp_skip ?_ | refine wp_exit ?_ | refine wp_ret ?_ | refine seqQ_norm ?_ | refine seqQ_ret ?_ | refine seqQ_exit ?_ | refine blkQ_norm ?_ | refine blkQ_ret ?_ | refine blkQ_exit ?_ | refine loopQ_norm ?_ | refine loopQ_exit ?_ | refine loopQ_ret ?_ | refine endQ_ret ?_ | refine endQ_norm ?_ | refine endE_ret ?_ | refine endE_norm ?_ | refine endI_ret ?_ | refine endI_norm ?_)
      | (with_reducible refine wp_regK fun K hK => ?_
         simp[hwn, hq1]
         repeat' (with_reducible first | refine hK _ ?_ | (refine psel ?_ ?_ <;> (intro hc; (try rw [Decidable.not_not] at hc); first | (exfalso; omega) | (try simp [hc, hwn, hq1]))))
         all_goals (clear hK; clear K))
      | (with_reducible refine wp_condE ?_
         refine ⟨_, rfl, ?_, ?_⟩ <;> (intro hc; (try simp at hc); (all_goals first | (exfalso; omega) | skip))))
    all_goals first | (exfalso; omega) | (exact ⟨(n, acc ++ [⟨(acc.length : Int), (d375 c1 3).1, IntKind.wrap .i64 (1 + (d375 (d375 c1 3).2 2).1), e, IntKind.wrap .i64 (1 + (d375 (d375 (d375 c1 3).2 2).2 4).1)⟩], IntKind.wrap .i64 (e + IntKind.wrap .i64 (1 + (d375 (d375 (d375 c1 3).2 2).2 4).1)), (d375 (d375 (d375 c1 3).2 2).2 4).2), by simp [hwn], by simp only [List.length_append, List.length_cons, List.length_nil]; omega, by simp⟩) | skip

noncomputable def d369 (c : XCur)  : (XDir) × XCur := Classical.choose (d369_ex c)

@[simp] theorem t369 (c : XCur)  : Gw TT 369 [.ptr [.ro false (.sl 1 (c.b.map eb)), .ro false (di (c.i : Nat)), .ro false (di c.h)]] = some (.st [.ro false (di (d369 c).1.Ver), .own (.sl 5 ((d369 c).1.L.map XRef.e))], [(0, 0, .ro false (.sl 1 ((d369 c).2.b.map eb))), (0, 1, .ro false (di ((d369 c).2.i : Nat))), (0, 2, .ro false (di (d369 c).2.h))]) := (Classical.choose_spec (d369_ex c)).1

theorem p369 (c : XCur)  : (d369 c).1.L.length ≤ 4 := (Classical.choose_spec (d369_ex c)).2

theorem d367_ex (c : XCur)  : ∃ r : (XDir) × XCur, Gw TT 367 [.ptr [.ro false (.sl 1 (c.b.map eb)), .ro false (di (c.i : Nat)), .ro false (di c.h)]] = some (.st [.ro false (di r.1.Ver), .own (.sl 5 (r.1.L.map XRef.e))], [(0, 0, .ro false (.sl 1 (r.2.b.map eb))), (0, 1, .ro false (di (r.2.i : Nat))), (0, 2, .ro false (di r.2.h))]) ∧ (r.1.L.length ≤ 4) := by
  suffices h0 : ∃ y, Gw TT 367 [.ptr [.ro false (.sl 1 (c.b.map eb)), .ro false (di (c.i : Nat)), .ro false (di c.h)]] = some y ∧ ∃ r : (XDir) × XCur, y = (.st [.ro false (di r.1.Ver), .own (.sl 5 (r.1.L.map XRef.e))], [(0, 0, .ro false (.sl 1 (r.2.b.map eb))), (0, 1, .ro false (di (r.2.i : Nat))), (0, 2, .ro false (di r.2.h))]) ∧ (r.1.L.length ≤ 4) by
    obtain ⟨y, h1, r, rfl, h2⟩ := h0
    exact ⟨r, h1, h2⟩
  refine Gw_ofE (F := pf367) rfl rfl ?_
  show Wp _ pb367 _ _
  unfold pb367
  have q := p369 c
  obtain ⟨⟨⟨ver, l⟩, c1⟩, hd⟩ : ∃ r, d369 c = r := ⟨_, rfl⟩
  rw [hd] at q
  simp only at q
  have q1 := p375 c1 (l.length : Int)
  obtain ⟨⟨kk, c2⟩, hk⟩ : ∃ r, d375 c1 (l.length : Int) = r := ⟨_, rfl⟩
  rw [hk] at q1
  simp only at q1
  obtain ⟨⟨v, c3⟩, hv⟩ : ∃ r, d375 c2 12 = r := ⟨_, rfl⟩
  obtain ⟨r1, g1⟩ : ∃ r : Int × XCur, Gw TT 378 [.ptr [.ro false (.sl 1 (c3.b.map eb)), .ro false (di (c3.i : Nat)), .ro false (di c3.h)], .one (.ro true (.sl 1 [[di 0], [di (-1)], [di 1], [di 1000000000], [di 1000000001]]))] = some (vi r.1, [(0, 0, .ro false (.sl 1 (r.2.b.map eb))), (0, 1, .ro false (di (r.2.i : Nat))), (0, 2, .ro false (di r.2.h))]) := ⟨_, t378 c3 true [[di 0], [di (-1)], [di 1], [di 1000000000], [di 1000000001]] (by simp) (by simp) (by simp)⟩
  obtain ⟨r2, g2⟩ : ∃ r : Int × XCur, Gw TT 378 [.ptr [.ro false (.sl 1 (c3.b.map eb)), .ro false (di (c3.i : Nat)), .ro false (di c3.h)], .one (.ro true (.sl 1 [[di (-1)], [di 0], [di 1]]))] = some (vi r.1, [(0, 0, .ro false (.sl 1 (r.2.b.map eb))), (0, 1, .ro false (di (r.2.i : Nat))), (0, 2, .ro false (di r.2.h))]) := ⟨_, t378 c3 true [[di (-1)], [di 0], [di 1]] (by simp) (by simp) (by simp)⟩
  by_cases hl : l.length = 0
  · obtain rfl : l = [] := List.length_eq_zero_iff.1 hl
    repeat' (first
      | with_reducible (first | refine wp_seq ?_ | refine wp_blk ?_ | refine wp_skip ?_ | refine wp_exit ?_ | refine wp_ret ?_ | refine seqQ_norm ?_ | refine seqQ_ret ?_ | refine seqQ_exit ?_ | refine blkQ_norm ?_ | refine blkQ_ret ?_ | refine blkQ_exit ?_ | refine loopQ_norm ?_ | refine loopQ_exit ?_ | refine loopQ_ret ?_ | refine endQ_ret ?_ | refine endQ_norm ?_ | refine endE_ret ?_ | refine endE_norm ?_ | refine endI_ret ?_ | refine endI_norm ?_)
      | (with_reducible refine wp_regK fun K hK => ?_
         simp[hd]
         repeat' (with_reducible first | refine hK _ ?_ | (refine psel ?_ ?_ <;> (intro hc; (try rw [Decidable.not_not] at hc); first | (exfalso; omega) | (try simp [hc, hd]))))
         all_goals (clear hK; clear K))
      | (with_reducible refine wp_condE ?_
         refine ⟨_, rfl, ?_, ?_⟩ <;> (intro hc; (try simp at hc); (all_goals first | (exfalso; omega) | skip))))
    all_goals first | (exfalso; omega) | (refine ⟨_, by simp [pf367]; rfl, ?_⟩; exact ⟨((⟨ver, []⟩ : XDir), c1), rfl, by simp⟩)
  · have q2 := q1.2.1 (by omega)
    have q3 := q1.1
    obtain ⟨x, hx⟩ : ∃ x, l[kk.toNat]? = some x := ⟨_, List.getElem?_eq_getElem (by omega)⟩
    obtain ⟨hlt, he⟩ := List.getElem?_eq_some_iff.1 hx
    repeat' (first
      | with_reducible (first | refine wp_seq ?_ | refine wp_blk ?_ | refine wp_skip ?_ | refine wp_exit ?_ | refine wp_ret ?_ | refine seqQ_norm ?_ | refine seqQ_ret ?_ | refine seqQ_exit ?_ | refine blkQ_norm ?_ | refine blkQ_ret ?_ | refine blkQ_exit ?_ | refine loopQ_norm ?_ | refine loopQ_exit ?_ | refine loopQ_ret ?_ | refine endQ_ret ?_ | refine endQ_norm ?_ | refine endE_ret ?_ | refine endE_norm ?_ | refine endI_ret ?_ | refine endI_norm ?_)
      | (with_reducible refine wp_regK fun K hK => ?_
         simp[hd, hk, hv, g1, g2, hl, q2, q3, hlt, hx, he]
         repeat' (with_reducible first | refine hK _ ?_ | (refine psel ?_ ?_ <;> (intro hc; (try rw [Decidable.not_not] at hc); first | (exfalso; omega) | (try simp [hc, hd, hk, hv, g1, g2, hl, q2, q3, hlt, hx, he]))))
         all_goals (clear hK; clear K))
      | (with_reducible refine wp_condE ?_
         refine ⟨_, rfl, ?_, ?_⟩ <;> (intro hc; (try simp at hc); (all_goals first | (exfalso; omega) | skip))))
    all_goals first | (exfalso; omega) | (refine ⟨_, by simp [pf367]; rfl, ?_⟩; refine ⟨((⟨(-1), l⟩ : XDir), c3), ?_, ?_⟩; (focus (first | (simp [*]; done) | (simp; done))); (focus (first | (simp; omega) | (simp; done)))) | (refine ⟨_, by simp [pf367]; rfl, ?_⟩; refine ⟨((⟨ver, l.set kk.toNat ⟨x.Buf, x.Gen, x.Kind, IntKind.wrap .i64 (x.First + 1), x.Many⟩⟩ : XDir), c3), ?_, ?_⟩; (focus (first | (simp [*]; done) | (simp; done))); (focus (first | (simp; omega) | (simp; done)))) | (refine ⟨_, by simp [pf367]; rfl, ?_⟩; refine ⟨((⟨ver, l.set kk.toNat ⟨x.Buf, x.Gen, x.Kind, x.First, r1.1⟩⟩ : XDir), r1.2), ?_, ?_⟩; (focus (first | (simp [*]; done) | (simp; done))); (focus (first | (simp; omega) | (simp; done)))) | (refine ⟨_, by simp [pf367]; rfl, ?_⟩; refine ⟨((⟨ver, l.set kk.toNat ⟨r2.1, x.Gen, x.Kind, x.First, x.Many⟩⟩ : XDir), r2.2), ?_, ?_⟩; (focus (first | (simp [*]; done) | (simp; done))); (focus (first | (simp; omega) | (simp; done)))) | (refine ⟨_, by simp [pf367]; rfl, ?_⟩; refine ⟨((⟨ver, l.set kk.toNat ⟨x.Buf, x.Gen, (d375 c3 4).1, x.First, x.Many⟩⟩ : XDir), (d375 c3 4).2), ?_, ?_⟩; (focus (first | (simp [*]; done) | (simp; done))); (focus (first | (simp; omega) | (simp; done)))) | (refine ⟨_, by simp [pf367]; rfl, ?_⟩; refine ⟨((⟨ver, l⟩ : XDir), c3), ?_, ?_⟩; (focus (first | (simp [*]; done) | (simp; done))); (focus (first | (simp; omega) | (simp; done)))) | (exfalso; simp_all; done) | skip

noncomputable def d367 (c : XCur)  : (XDir) × XCur := Classical.choose (d367_ex c)

@[simp] theorem t367 (c : XCur)  : Gw TT 367 [.ptr [.ro false (.sl 1 (c.b.map eb)), .ro false (di (c.i : Nat)), .ro false (di c.h)]] = some (.st [.ro false (di (d367 c).1.Ver), .own (.sl 5 ((d367 c).1.L.map XRef.e))], [(0, 0, .ro false (.sl 1 ((d367 c).2.b.map eb))), (0, 1, .ro false (di ((d367 c).2.i : Nat))), (0, 2, .ro false (di (d367 c).2.h))]) := (Classical.choose_spec (d367_ex c)).1

theorem p367 (c : XCur)  : (d367 c).1.L.length ≤ 4 := (Classical.choose_spec (d367_ex c)).2

theorem e291_ex (b : List Int) (hb : b.length ≤ 1048576) : ∃ r : XDir × Int × Int × XRef, Gw TT 291 [.one (.ro false (.sl 1 (b.map eb)))] = some (.tup [.st [.ro false (di r.1.Ver), .own (.sl 5 (r.1.L.map XRef.e))], vi r.2.1, vi r.2.2.1, .st [.ro false (di r.2.2.2.Buf), .ro false (di r.2.2.2.Gen), .ro false (di r.2.2.2.Kind), .ro false (di r.2.2.2.First), .ro false (di r.2.2.2.Many)]], []) ∧ (r.1.L.length ≤ 4) := by
  suffices h0 : ∃ y, Gw TT 291 [.one (.ro false (.sl 1 (b.map eb)))] = some y ∧ ∃ r : XDir × Int × Int × XRef, y = (.tup [.st [.ro false (di r.1.Ver), .own (.sl 5 (r.1.L.map XRef.e))], vi r.2.1, vi r.2.2.1, .st [.ro false (di r.2.2.2.Buf), .ro false (di r.2.2.2.Gen), .ro false (di r.2.2.2.Kind), .ro false (di r.2.2.2.First), .ro false (di r.2.2.2.Many)]], []) ∧ (r.1.L.length ≤ 4) by
    obtain ⟨y, h1, r, rfl, h2⟩ := h0
    exact ⟨r, h1, h2⟩
  refine Gw_ofE (F := pf291) rfl rfl ?_
  show Wp _ pb291 _ _
  unfold pb291
  have q := p367 (newC b hb)
  obtain ⟨⟨⟨ver, l⟩, c1⟩, hd⟩ : ∃ r, d367 (newC b hb) = r := ⟨_, rfl⟩
  rw [hd] at q
  simp only at q
  have hw0 : IntKind.wrap .i64 ((l.length : Int) + 1) = (l.length : Int) + 1 := wrap_i64 (by omega) (by omega)
  have q1 := p375 c1 ((l.length : Int) + 1)
  obtain ⟨⟨i, c2⟩, hi⟩ : ∃ r, d375 c1 ((l.length : Int) + 1) = r := ⟨_, rfl⟩
  rw [hi] at q1
  simp only at q1
  have q2 := p375 c2 2
  obtain ⟨⟨n0, c3⟩, hn⟩ : ∃ r, d375 c2 2 = r := ⟨_, rfl⟩
  rw [hn] at q2
  simp only at q2
  have q3 := q1.2.1 (by omega)
  have q4 := q2.2.1 (by omega)
  have hw1 : IntKind.wrap .i64 (1 + n0) = 1 + n0 := wrap_i64 (by omega) (by omega)
  have hw2 : IntKind.wrap .i64 (i + (1 + n0)) = i + (1 + n0) := wrap_i64 (by omega) (by omega)
  repeat' (first
    | with_reducible (first | refine wp_seq ?_ | refine wp_blk ?_ | refine wp_skip ?_ | refine wp_exit ?_ | refine wp_ret ?_ | refine seqQ_norm ?_ | refine seqQ_ret ?_ | refine seqQ_exit ?_ | refine blkQ_norm ?_ | refine blkQ_ret ?_ | refine blkQ_exit ?_ | refine loopQ_norm ?_ | refine loopQ_exit ?_ | refine loopQ_ret ?_ | refine endQ_ret ?_ | refine endQ_norm ?_ | refine endE_ret ?_ | refine endE_norm ?_ | refine endI_ret ?_ | refine endI_norm ?_)
    | (with_reducible refine wp_regK fun K hK => ?_
       simp[hb, hd, hw0, hi, hn, hw1]
       repeat' (with_reducible first | refine hK _ ?_ | (refine psel ?_ ?_ <;> (intro hc; (try rw [Decidable.not_not] at hc); first | (exfalso; omega) | (try simp [hc, hb, hd, hw0, hi, hn, hw1]))))
       all_goals (clear hK; clear K))
    | (with_reducible refine wp_condE ?_
       refine ⟨_, rfl, ?_, ?_⟩ <;> (intro hc; (try simp at hc); (all_goals first | (exfalso; omega) | skip))))
  refine wp_loopI (σ := Int × Int × Int) (fun s => [(2, AV.bx 2 0, some (Rt.bx [.ro false (di 0), .own (.sl 5 [])])), (5, AV.bx 5 0, some (Rt.bx [.ro false (di 0), .ro false (di 0), .ro false (di 0), .ro false (di 0), .ro false (di 0)])), (6, AV.bx 6 0, some (Rt.bx [.ro false (.sl 1 (c3.b.map eb)), .ro false (di (c3.i : Nat)), .ro false (di c3.h)])), (7, AV.bx 7 0, some (Rt.bx [.ro false (di ver), .own (.sl 5 (l.map XRef.e))])), (8, AV.v false (di i), none), (9, AV.v false (di (1 + n0)), none), (10, AV.bx 10 0, some (Rt.bx [.ro false (di 9), .ro false (di 0), .ro false (di 2), .ro false (di s.2.1), .ro false (di s.2.2)])), (11, AV.v false (di s.1), none)]) (fun s => i ≤ s.1 ∧ s.1 ≤ 100) (fun s => (100 - s.1).toNat) (i, 0, 1) (by simp) ⟨Int.le_refl _, by simp only; omega⟩ ?_
  rintro ⟨k, fi, ma⟩ ⟨h1, h2⟩
  simp only at h1 h2
  unfold pl291_0
  by_cases hk : k < i + (1 + n0) ∧ k < (l.length : Int)
  · obtain ⟨hk1, hk2⟩ := hk
    have hk0 : 0 ≤ k := by omega
    obtain ⟨x, hx⟩ : ∃ x, l[k.toNat]? = some x := ⟨_, List.getElem?_eq_getElem (by omega)⟩
    obtain ⟨hlt, he⟩ := List.getElem?_eq_some_iff.1 hx
    have hwk : IntKind.wrap .i64 (k + 1) = k + 1 := wrap_i64 (by omega) (by omega)
    by_cases e : k = i
    · subst e
      repeat' (first
        | with_reducible (first | refine wp_seq ?_ | refine wp_blk ?_ | refine wp_skip ?_ | refine wp_exit ?_ | refine wp_ret ?_ | refine seqQ_norm ?_ | refine seqQ_ret ?_ | refine seqQ_exit ?_ | refine blkQ_norm ?_ | refine blkQ_ret ?_ | refine blkQ_exit ?_ | refine loopQ_norm ?_ | refine loopQ_exit ?_ | refine loopQ_ret ?_ | refine endQ_ret ?_ | refine endQ_norm ?_ | refine endE_ret ?_ | refine endE_norm ?_ | refine endI_ret ?_ | refine endI_norm ?_)
        | (with_reducible refine wp_regK fun K hK => ?_
           simp[hw2, hk1, hk2, hk0, hx, he, hlt, hwk]
           repeat' (with_reducible first | refine hK _ ?_ | (refine psel ?_ ?_ <;> (intro hc; (try rw [Decidable.not_not] at hc); first | (exfalso; omega) | (try simp [hc, hw2, hk1, hk2, hk0, hx, he, hlt, hwk]))))
           all_goals (clear hK; clear K))
        | (with_reducible refine wp_condE ?_
           refine ⟨_, rfl, ?_, ?_⟩ <;> (intro hc; (try simp at hc); (all_goals first | (exfalso; omega) | skip))))
      all_goals first | (exact ⟨(k + 1, x.First, IntKind.wrap .i64 x.Many), by simp, ⟨by simp only; omega, by simp only; omega⟩, by simp only; omega⟩) | (exfalso; omega) | skip
    · repeat' (first
        | with_reducible (first | refine wp_seq ?_ | refine wp_blk ?_ | refine wp_skip ?_ | refine wp_exit ?_ | refine wp_ret ?_ | refine seqQ_norm ?_ | refine seqQ_ret ?_ | refine seqQ_exit ?_ | refine blkQ_norm ?_ | refine blkQ_ret ?_ | refine blkQ_exit ?_ | refine loopQ_norm ?_ | refine loopQ_exit ?_ | refine loopQ_ret ?_ | refine endQ_ret ?_ | refine endQ_norm ?_ | refine endE_ret ?_ | refine endE_norm ?_ | refine endI_ret ?_ | refine endI_norm ?_)
        | (with_reducible refine wp_regK fun K hK => ?_
           simp[hw2, hk1, hk2, hk0, hx, he, hlt, hwk, e]
           repeat' (with_reducible first | refine hK _ ?_ | (refine psel ?_ ?_ <;> (intro hc; (try rw [Decidable.not_not] at hc); first | (exfalso; omega) | (try simp [hc, hw2, hk1, hk2, hk0, hx, he, hlt, hwk, e]))))
           all_goals (clear hK; clear K))
        | (with_reducible refine wp_condE ?_
           refine ⟨_, rfl, ?_, ?_⟩ <;> (intro hc; (try simp at hc); (all_goals first | (exfalso; omega) | skip))))
      all_goals first | (exact ⟨(k + 1, fi, IntKind.wrap .i64 (ma + x.Many)), by simp, ⟨by simp only; omega, by simp only; omega⟩, by simp only; omega⟩) | (exfalso; omega) | skip
  · repeat' (first
      | with_reducible (first | refine wp_seq ?_ | refine wp_blk ?_ | refine wp_skip ?_ | refine wp_exit ?_ | refine wp_ret ?_ | refine seqQ_norm ?_ | refine seqQ_ret ?_ | refine seqQ_exit ?_ | refine blkQ_norm ?_ | refine blkQ_ret ?_ | refine blkQ_exit ?_ | refine loopQ_norm ?_ | refine loopQ_exit ?_ | refine loopQ_ret ?_ | refine endQ_ret ?_ | refine endQ_norm ?_ | refine endE_ret ?_ | refine endE_norm ?_ | refine endI_ret ?_ | refine endI_norm ?_)
      | (with_reducible refine wp_regK fun K hK => ?_
         simp[hw2]
         repeat' (with_reducible first | refine hK _ ?_ | (refine psel ?_ ?_ <;> (intro hc; (try rw [Decidable.not_not] at hc); first | (exfalso; omega) | (try simp [hc, hw2]))))
         all_goals (clear hK; clear K))
      | (with_reducible refine wp_condE ?_
         refine ⟨_, rfl, ?_, ?_⟩ <;> (intro hc; (try simp at hc); (all_goals first | (exfalso; omega) | skip))))
    all_goals first | (exfalso; omega) | (refine ⟨_, by simp [pf291]; rfl, ?_⟩; refine ⟨((⟨ver, l⟩ : XDir), i, 1 + n0, (⟨9, 0, 2, fi, ma⟩ : XRef)), ?_, ?_⟩; (focus (first | (simp; done) | (simp [*]; done))); (focus (simp only; omega))) | (refine ⟨_, by simp [pf291]; rfl, ?_⟩; refine ⟨((⟨ver, l⟩ : XDir), i, 1 + n0, (⟨9, 0, 2, fi, IntKind.wrap .i64 (ma + 1)⟩ : XRef)), ?_, ?_⟩; (focus (first | (simp; done) | (simp [*]; done))); (focus (simp only; omega))) | (refine ⟨_, by simp [pf291]; rfl, ?_⟩; refine ⟨((⟨ver, l⟩ : XDir), (-1), 1 + n0, (⟨9, 0, 2, fi, ma⟩ : XRef)), ?_, ?_⟩; (focus (first | (simp; done) | (simp [*]; done))); (focus (simp only; omega))) | (refine ⟨_, by simp [pf291]; rfl, ?_⟩; refine ⟨((⟨ver, l⟩ : XDir), (-1), 1 + n0, (⟨9, 0, 2, fi, IntKind.wrap .i64 (ma + 1)⟩ : XRef)), ?_, ?_⟩; (focus (first | (simp; done) | (simp [*]; done))); (focus (simp only; omega))) | skip

@[simp] theorem t206 (k0 k1 : Bool) (l : List XRef) (h : l.length ≤ 1048576) : Gw TT 206 [.one (.ro k0 (.sl 5 (l.map XRef.e))), .one (.ro k1 (.sl 5 (l.map XRef.e)))] = some (vb true, []) := by
  refine Gw_of (F := pf206) rfl rfl ?_
  show Wp _ pb206 _ _
  unfold pb206
  repeat' (first
    | with_reducible (first | refine wp_seq ?_ | refine wp_blk ?_ | refine wp_skip ?_ | refine wp_exit ?_ | refine wp_ret ?_ | refine seqQ_norm ?_ | refine seqQ_ret ?_ | refine seqQ_exit ?_ | refine blkQ_norm ?_ | refine blkQ_ret ?_ | refine blkQ_exit ?_ | refine loopQ_norm ?_ | refine loopQ_exit ?_ | refine loopQ_ret ?_ | refine endQ_ret ?_ | refine endQ_norm ?_ | refine endE_ret ?_ | refine endE_norm ?_ | refine endI_ret ?_ | refine endI_norm ?_)
    | (with_reducible refine wp_regK fun K hK => ?_
       simp
       repeat' (with_reducible first | refine hK _ ?_ | (refine psel ?_ ?_ <;> (intro hc; (try rw [Decidable.not_not] at hc); first | (exfalso; omega) | (try simp [hc]))))
       all_goals (clear hK; clear K))
    | (with_reducible refine wp_condE ?_
       refine ⟨_, rfl, ?_, ?_⟩ <;> (intro hc; (try simp at hc); (all_goals first | (exfalso; omega) | skip))))
  refine wp_loopI (σ := List XRef × List XRef) (fun s => [(0, AV.v k0 (D.sl 5 (l.map XRef.e)), none), (1, AV.v k1 (D.sl 5 (l.map XRef.e)), none), (5, AV.v false (di ((s.1.length : Nat) : Int)), none)]) (fun s => l = s.1 ++ s.2) (fun s => s.2.length) ([], l) (by simp) rfl ?_
  rintro ⟨pre, rest⟩ h1
  simp only at h1
  subst h1
  simp only [List.length_append, List.length_cons] at h
  rcases rest with _ | ⟨d, rest⟩
  · unfold pl206_0
    repeat' (first
      | with_reducible (first | refine wp_seq ?_ | refine wp_blk ?_ | refine wp_skip ?_ | refine wp_exit ?_ | refine wp_ret ?_ | refine seqQ_norm ?_ | refine seqQ_ret ?_ | refine seqQ_exit ?_ | refine blkQ_norm ?_ | refine blkQ_ret ?_ | refine blkQ_exit ?_ | refine loopQ_norm ?_ | refine loopQ_exit ?_ | refine loopQ_ret ?_ | refine endQ_ret ?_ | refine endQ_norm ?_ | refine endE_ret ?_ | refine endE_norm ?_ | refine endI_ret ?_ | refine endI_norm ?_)
      | (with_reducible refine wp_regK fun K hK => ?_
         simp
         repeat' (with_reducible first | refine hK _ ?_ | (refine psel ?_ ?_ <;> (intro hc; (try rw [Decidable.not_not] at hc); first | (exfalso; omega) | (try simp [hc]))))
         all_goals (clear hK; clear K))
      | (with_reducible refine wp_condE ?_
         refine ⟨_, rfl, ?_, ?_⟩ <;> (intro hc; (try simp at hc); (all_goals first | (exfalso; omega) | skip))))
    all_goals first | (simp [pf206]; done) | (exfalso; omega)
  · unfold pl206_0
    simp only [List.length_cons] at h
    have hw : IntKind.wrap .i64 ((pre.length : Int) + 1) = (pre.length : Int) + 1 := wrap_i64 (by omega) (by omega)
    repeat' (first
      | with_reducible (first | refine wp_seq ?_ | refine wp_blk ?_ | refine wp_skip ?_ | refine wp_exit ?_ | refine wp_ret ?_ | refine seqQ_norm ?_ | refine seqQ_ret ?_ | refine seqQ_exit ?_ | refine blkQ_norm ?_ | refine blkQ_ret ?_ | refine blkQ_exit ?_ | refine loopQ_norm ?_ | refine loopQ_exit ?_ | refine loopQ_ret ?_ | refine endQ_ret ?_ | refine endQ_norm ?_ | refine endE_ret ?_ | refine endE_norm ?_ | refine endI_ret ?_ | refine endI_norm ?_)
      | (with_reducible refine wp_regK fun K hK => ?_
         simp[hw]
         repeat' (with_reducible first | refine hK _ ?_ | (refine psel ?_ ?_ <;> (intro hc; (try rw [Decidable.not_not] at hc); first | (exfalso; omega) | (try simp [hc, hw]))))
         all_goals (clear hK; clear K))
      | (with_reducible refine wp_condE ?_
         refine ⟨_, rfl, ?_, ?_⟩ <;> (intro hc; (try simp at hc); (all_goals first | (exfalso; omega) | skip))))
    all_goals first | exact ⟨(pre ++ [d], rest), by simp, by simp, by simp⟩ | (exfalso; omega)

@[simp] theorem t202 (k0 k1 : Bool) (x_Ver : Int) (x_L : List XRef) (h : x_L.length ≤ 1048576) : Gw TT 202 [.st [.ro false (di x_Ver), .ro k0 (.sl 5 (x_L.map XRef.e))], .st [.ro false (di x_Ver), .ro k1 (.sl 5 (x_L.map XRef.e))]] = some (vb true, []) := by
  refine Gw_of (F := pf202) rfl rfl ?_
  show Wp _ pb202 _ _
  unfold pb202
  repeat' (first
    | with_reducible (first | refine wp_seq ?_ | refine wp_blk ?_ | refine wp_skip ?_ | refine wp_exit ?_ | refine wp_ret ?_ | refine seqQ_norm ?_ | refine seqQ_ret ?_ | refine seqQ_exit ?_ | refine blkQ_norm ?_ | refine blkQ_ret ?_ | refine blkQ_exit ?_ | refine loopQ_norm ?_ | refine loopQ_exit ?_ | refine loopQ_ret ?_ | refine endQ_ret ?_ | refine endQ_norm ?_ | refine endE_ret ?_ | refine endE_norm ?_ | refine endI_ret ?_ | refine endI_norm ?_)
    | (with_reducible refine wp_regK fun K hK => ?_
       simp[h]
       repeat' (with_reducible first | refine hK _ ?_ | (refine psel ?_ ?_ <;> (intro hc; (try rw [Decidable.not_not] at hc); first | (exfalso; omega) | (try simp [hc, h]))))
       all_goals (clear hK; clear K))
    | (with_reducible refine wp_condE ?_
       refine ⟨_, rfl, ?_, ?_⟩ <;> (intro hc; (try simp at hc); (all_goals first | (exfalso; omega) | skip))))
  all_goals first | (simp [pf202]; done) | (exfalso; omega)

@[simp] theorem t141 (k0 : Bool) (b : List Int) (h : b.length ≤ 9223372036854775807) : Gw TT 141 [.one (.ro k0 (.sl 1 (b.map eb)))] = some (vb (decide (1048576 < (b.length : Int))), []) := by
  refine Gw_of (F := pf141) rfl rfl ?_
  show Wp _ pb141 _ _
  unfold pb141
  repeat' (first
    | with_reducible (first | refine wp_seq ?_ | refine wp_blk ?_ | refine wp_skip ?_ | refine wp_exit ?_ | refine wp_ret ?_ | refine seqQ_norm ?_ | refine seqQ_ret ?_ | refine seqQ_exit ?_ | refine blkQ_norm ?_ | refine blkQ_ret ?_ | refine blkQ_exit ?_ | refine loopQ_norm ?_ | refine loopQ_exit ?_ | refine loopQ_ret ?_ | refine endQ_ret ?_ | refine endQ_norm ?_ | refine endE_ret ?_ | refine endE_norm ?_ | refine endI_ret ?_ | refine endI_norm ?_)
    | (with_reducible refine wp_regK fun K hK => ?_
       simp
       repeat' (with_reducible first | refine hK _ ?_ | (refine psel ?_ ?_ <;> (intro hc; (try rw [Decidable.not_not] at hc); first | (exfalso; omega) | (try simp [hc]))))
       all_goals (clear hK; clear K))
    | (with_reducible refine wp_condE ?_
       refine ⟨_, rfl, ?_, ?_⟩ <;> (intro hc; (try simp at hc); (all_goals first | (exfalso; omega) | skip))))
  all_goals simp [pf141]

theorem t138 (code : List Int) (hok_code : code.length ≤ 9223372036854775807) : Gw TT 138 [.one (.ro false (.sl 1 (code.map eb)))] = some (vb true, []) := by
  refine Gw_of (F := pf138) rfl rfl ?_
  show Wp _ pb138 _ _
  unfold pb138
  by_cases hb : code.length ≤ 1048576
  · have hbg : ¬ (1048576 < (code.length : Int)) := by omega
    obtain ⟨⟨⟨ver, l⟩, i, n, ⟨rb, rg, rk, rf, rm⟩⟩, g1, hl⟩ := e291_ex code hb
    simp only at g1 hl
    have hl1 : l.length ≤ 1048576 := by omega
    have hD1 := swD_len ver i n l ⟨rb, rg, rk, rf, rm⟩ hl1
    cases hO : swOk ver i n l ⟨rb, rg, rk, rf, rm⟩ with
    | false =>
      have hD : swD ver i n l ⟨rb, rg, rk, rf, rm⟩ = l := by simp [swD, hO]
      have hV : swV ver i n l ⟨rb, rg, rk, rf, rm⟩ = ver := by simp [swV, hO]
      repeat' (first
        | with_reducible (first | refine wp_seq ?_ | refine wp_blk ?_ | refine wp_skip ?_ | refine wp_exit ?_ | refine wp_ret ?_ | refine seqQ_norm ?_ | refine seqQ_ret ?_ | refine seqQ_exit ?_ | refine blkQ_norm ?_ | refine blkQ_ret ?_ | refine blkQ_exit ?_ | refine loopQ_norm ?_ | refine loopQ_exit ?_ | refine loopQ_ret ?_ | refine endQ_ret ?_ | refine endQ_norm ?_ | refine endE_ret ?_ | refine endE_norm ?_ | refine endI_ret ?_ | refine endI_norm ?_)
        | (with_reducible refine wp_regK fun K hK => ?_
           simp[hok_code, hbg, g1, hl1, hO, hD, hV]
           repeat' (with_reducible first | refine hK _ ?_ | (refine psel ?_ ?_ <;> (intro hc; (try rw [Decidable.not_not] at hc); first | (exfalso; omega) | (try simp [hc, hok_code, hbg, g1, hl1, hO, hD, hV]))))
           all_goals (clear hK; clear K))
        | (with_reducible refine wp_condE ?_
           refine ⟨_, rfl, ?_, ?_⟩ <;> (intro hc; (try simp at hc); (all_goals first | (exfalso; omega) | skip))))
      all_goals first | (simp [pf138]; done) | (exfalso; omega) | skip
    | true =>
      have hV : swV ver i n l ⟨rb, rg, rk, rf, rm⟩ = IntKind.wrap .i64 (ver + 1) := by simp [swV, hO]
      have hD : swD ver i n l ⟨rb, rg, rk, rf, rm⟩ = swL i n l ⟨rb, rg, rk, rf, rm⟩ := by simp [swD, hO]
      have hO2 := hO
      simp only [swOk, Bool.and_eq_true, beq_iff_eq] at hO2
      obtain ⟨hR, hdo, hen⟩ := hO2
      rw [← hD] at hdo hen
      simp only [swR, decide_eq_true_eq] at hR
      obtain ⟨a, rfl⟩ : ∃ a : Nat, i = (a : Int) := ⟨i.toNat, by omega⟩
      obtain ⟨b, rfl⟩ : ∃ b : Nat, n = (b : Int) := ⟨n.toNat, by omega⟩
      have hXl : (swD ver (a : Int) (b : Int) l ⟨rb, rg, rk, rf, rm⟩).length = l.length - b + 1 := by
        rw [hD]; simp only [swL, Int.toNat_natCast, List.length_append, List.length_cons, List.length_take, List.length_drop]; omega
      have hXa : (swD ver (a : Int) (b : Int) l ⟨rb, rg, rk, rf, rm⟩)[a]? = some ⟨rb, rg, rk, rf, rm⟩ := by
        rw [hD]; simp only [swL, Int.toNat_natCast]
        exact get_mid _ _ _ (by simp only [List.length_take]; omega)
      have hXt : (swD ver (a : Int) (b : Int) l ⟨rb, rg, rk, rf, rm⟩).take a = l.take a := by
        rw [hD]; simp only [swL, Int.toNat_natCast]
        rw [List.take_append_of_le_length (by simp only [List.length_take]; omega), List.take_take, Nat.min_self]
      have hXd : (swD ver (a : Int) (b : Int) l ⟨rb, rg, rk, rf, rm⟩).drop (a + 1) = l.drop (a + b) := by
        rw [hD]; simp only [swL, Int.toNat_natCast]
        rw [List.drop_append]
        have : (List.take a l).length = a := by simp only [List.length_take]; omega
        rw [this, List.drop_of_length_le (by omega)]
        simp
      generalize hX : swD ver (a : Int) (b : Int) l ⟨rb, rg, rk, rf, rm⟩ = X at hdo hen hXl hXa hXt hXd hD1
      have hm1 : List.take a (List.map XRef.e X) = List.take a (List.map XRef.e l) := by rw [← List.map_take, hXt, List.map_take]
      have hm2 : List.drop (a + 1) (List.map XRef.e X) = List.drop (a + b) (List.map XRef.e l) := by rw [← List.map_drop, hXd, List.map_drop]
      have gT := t206 true true (l.take a) (by simp only [List.length_take]; omega)
      have gD := t206 true true (l.drop (a + b)) (by simp only [List.length_drop]; omega)
      simp only [List.map_take, List.map_drop] at gT gD
      have w1 : IntKind.wrap .i64 ((l.length : Int) - (b : Int)) = (l.length : Int) - (b : Int) := wrap_i64 (by omega) (by omega)
      have w2 : IntKind.wrap .i64 ((l.length : Int) - (b : Int) + 1) = (l.length : Int) - (b : Int) + 1 := wrap_i64 (by omega) (by omega)
      have w3 : IntKind.wrap .i64 ((a : Int) + 1) = (a : Int) + 1 := wrap_i64 (by omega) (by omega)
      have w4 : IntKind.wrap .i64 ((a : Int) + (b : Int)) = (a : Int) + (b : Int) := wrap_i64 (by omega) (by omega)
      have hXi : (X.length : Int) = (l.length : Int) - (b : Int) + 1 := by omega
      have n1 : (a : Int) ≤ (X.length : Int) := by omega
      have n2 : (a : Int) < (X.length : Int) := by omega
      have n3 : (a : Int) + 1 ≤ (X.length : Int) := by omega
      have n4 : (a : Int) ≤ (l.length : Int) := by omega
      have n5 : (a : Int) + (b : Int) ≤ (l.length : Int) := by omega
      have n6 : ((a : Int) + 1).toNat = a + 1 := by omega
      have n7 : ((a : Int) + (b : Int)).toNat = a + b := by omega
      have n8 : (0 : Int) ≤ (a : Int) + 1 := by omega
      have n9 : (0 : Int) ≤ (a : Int) + (b : Int) := by omega
      have m1 : a ≤ X.length := by omega
      have m2 : a < X.length := by omega
      have m3 : a + 1 ≤ X.length := by omega
      have m4 : a ≤ l.length := by omega
      have m5 : a + b ≤ l.length := by omega
      have m6 : ((X.length : Int) == (l.length : Int) - (b : Int) + 1) = true := by simp [hXi]
      have hX1 : X.length ≤ 1048576 := by omega
      obtain ⟨_, hXe⟩ := List.getElem?_eq_some_iff.1 hXa
      repeat' (first
        | with_reducible (first | refine wp_seq ?_ | refine wp_blk ?_ | refine wp_skip ?_ | refine wp_exit ?_ | refine wp_ret ?_ | refine seqQ_norm ?_ | refine seqQ_ret ?_ | refine seqQ_exit ?_ | refine blkQ_norm ?_ | refine blkQ_ret ?_ | refine blkQ_exit ?_ | refine loopQ_norm ?_ | refine loopQ_exit ?_ | refine loopQ_ret ?_ | refine endQ_ret ?_ | refine endQ_norm ?_ | refine endE_ret ?_ | refine endE_norm ?_ | refine endI_ret ?_ | refine endI_norm ?_)
        | (with_reducible refine wp_regK fun K hK => ?_
           simp[hok_code, hbg, g1, hl1, hO, hV, hX, hX1, hdo, hen, hXa, hXe, hm1, hm2, gT, gD, w1, w2, w3, w4, n1, n2, n3, n4, n5, n6, n7, n8, n9, m1, m2, m3, m4, m5, m6]
           repeat' (with_reducible first | refine hK _ ?_ | (refine psel ?_ ?_ <;> (intro hc; (try rw [Decidable.not_not] at hc); first | (exfalso; omega) | (try simp [hc, hok_code, hbg, g1, hl1, hO, hV, hX, hX1, hdo, hen, hXa, hXe, hm1, hm2, gT, gD, w1, w2, w3, w4, n1, n2, n3, n4, n5, n6, n7, n8, n9, m1, m2, m3, m4, m5, m6]))))
           all_goals (clear hK; clear K))
        | (with_reducible refine wp_condE ?_
           refine ⟨_, rfl, ?_, ?_⟩ <;> (intro hc; (try simp at hc); (all_goals first | (exfalso; omega) | skip))))
      all_goals first | (simp [pf138, hXi]; done) | (exfalso; omega) | skip
  · have hbg : 1048576 < (code.length : Int) := by omega
    repeat' (first
      | with_reducible (first | refine wp_seq ?_ | refine wp_blk ?_ | refine wp_skip ?_ | refine wp_exit ?_ | refine wp_ret ?_ | refine seqQ_norm ?_ | refine seqQ_ret ?_ | refine seqQ_exit ?_ | refine blkQ_norm ?_ | refine blkQ_ret ?_ | refine blkQ_exit ?_ | refine loopQ_norm ?_ | refine loopQ_exit ?_ | refine loopQ_ret ?_ | refine endQ_ret ?_ | refine endQ_norm ?_ | refine endE_ret ?_ | refine endE_norm ?_ | refine endI_ret ?_ | refine endI_norm ?_)
      | (with_reducible refine wp_regK fun K hK => ?_
         simp[hok_code, hbg]
         repeat' (with_reducible first | refine hK _ ?_ | (refine psel ?_ ?_ <;> (intro hc; (try rw [Decidable.not_not] at hc); first | (exfalso; omega) | (try simp [hc, hok_code, hbg]))))
         all_goals (clear hK; clear K))
      | (with_reducible refine wp_condE ?_
         refine ⟨_, rfl, ?_, ?_⟩ <;> (intro hc; (try simp at hc); (all_goals first | (exfalso; omega) | skip))))
    all_goals first | (simp [pf138]; done) | (exfalso; omega)

end Go.Proofs.Ytkgibccknlbiaaa.OM
