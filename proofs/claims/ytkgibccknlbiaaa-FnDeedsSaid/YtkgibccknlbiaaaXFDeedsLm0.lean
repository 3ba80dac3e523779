/- What the functions answer. -/
import Derived.Test.YtkgibccknlbiaaaOMTypes
import Derived.Test.YtkgibccknlbiaaaOMTac2
import Derived.Test.YtkgibccknlbiaaaXFDeedsPc0
set_option linter.all false
namespace Go.Proofs.Ytkgibccknlbiaaa.OM
set_option maxHeartbeats 4000000
set_option maxRecDepth 100000

def tab : List (Nat × PF) := [(2, pf2), (3, pf3), (5, pf5), (11, pf11), (14, pf14), (36, pf36), (37, pf37), (40, pf40), (46, pf46), (49, pf49), (50, pf50), (51, pf51), (52, pf52), (84, pf84), (85, pf85), (86, pf86), (87, pf87), (89, pf89), (141, pf141), (201, pf201), (203, pf203), (204, pf204), (205, pf205), (207, pf207), (208, pf208), (209, pf209), (261, pf261), (267, pf267), (268, pf268), (270, pf270), (273, pf273), (276, pf276), (282, pf282), (284, pf284), (289, pf289), (317, pf317), (320, pf320), (321, pf321), (341, pf341), (348, pf348), (349, pf349), (350, pf350), (351, pf351), (352, pf352), (353, pf353), (354, pf354), (355, pf355), (356, pf356), (375, pf375), (376, pf376), (377, pf377), (378, pf378), (379, pf379), (380, pf380), (382, pf382), (384, pf384), (385, pf385), (386, pf386), (387, pf387), (388, pf388), (389, pf389), (395, pf395), (396, pf396), (397, pf397), (399, pf399), (400, pf400), (401, pf401), (404, pf404), (405, pf405), (406, pf406), (407, pf407), (408, pf408), (409, pf409), (410, pf410)]
def TT (k : Nat) : Option PF := tab.lookup k

@[simp] theorem t87 (x a b : Int) : Gw TT 87 [vi x, vi a, vi b] = some (vb (decide (a ≤ x) && decide (x ≤ b)), []) := by
  refine Gw_of (F := pf87) rfl rfl ?_
  show Wp _ pb87 _ _
  unfold pb87
  repeat' (first
    | with_reducible (first | refine wp_seq ?_ | refine wp_blk ?_ | refine wp_skip ?_ | refine wp_exit ?_ | refine wp_ret ?_ | refine seqQ_norm ?_ | refine seqQ_ret ?_ | refine seqQ_exit ?_ | refine blkQ_norm ?_ | refine blkQ_ret ?_ | refine blkQ_exit ?_ | refine loopQ_norm ?_ | refine loopQ_exit ?_ | refine loopQ_ret ?_ | refine endQ_ret ?_ | refine endQ_norm ?_ | refine endE_ret ?_ | refine endE_norm ?_ | refine endI_ret ?_ | refine endI_norm ?_)
    | (with_reducible refine wp_regK fun K hK => ?_
       simp
       repeat' (with_reducible first | refine hK _ ?_ | (refine psel ?_ ?_ <;> (intro hc; (try rw [Decidable.not_not] at hc); first | (exfalso; omega) | (try simp [hc]))))
       all_goals (clear hK; clear K))
    | (with_reducible refine wp_condE ?_
       refine ⟨_, rfl, ?_, ?_⟩ <;> (intro hc; (try simp at hc); (all_goals first | (exfalso; omega) | skip))))
  all_goals first | (simp_all [pf87]; done) | (simp_all [pf87]; omega)

@[simp] theorem t377 (x a b : Int) : Gw TT 377 [vi x, vi a, vi b] = some (vb (decide (a ≤ x) && decide (x ≤ b)), []) := by
  refine Gw_of (F := pf377) rfl rfl ?_
  show Wp _ pb377 _ _
  unfold pb377
  repeat' (first
    | with_reducible (first | refine wp_seq ?_ | refine wp_blk ?_ | refine wp_skip ?_ | refine wp_exit ?_ | refine wp_ret ?_ | refine seqQ_norm ?_ | refine seqQ_ret ?_ | refine seqQ_exit ?_ | refine blkQ_norm ?_ | refine blkQ_ret ?_ | refine blkQ_exit ?_ | refine loopQ_norm ?_ | refine loopQ_exit ?_ | refine loopQ_ret ?_ | refine endQ_ret ?_ | refine endQ_norm ?_ | refine endE_ret ?_ | refine endE_norm ?_ | refine endI_ret ?_ | refine endI_norm ?_)
    | (with_reducible refine wp_regK fun K hK => ?_
       simp
       repeat' (with_reducible first | refine hK _ ?_ | (refine psel ?_ ?_ <;> (intro hc; (try rw [Decidable.not_not] at hc); first | (exfalso; omega) | (try simp [hc]))))
       all_goals (clear hK; clear K))
    | (with_reducible refine wp_condE ?_
       refine ⟨_, rfl, ?_, ?_⟩ <;> (intro hc; (try simp at hc); (all_goals first | (exfalso; omega) | skip))))
  all_goals first | (simp_all [pf377]; done) | (simp_all [pf377]; omega)

def colsB : List Int → Bool
  | [] => true
  | p :: l => if p ≠ 1 ∧ p ≠ 2 then false else colsB l
def colsOk (l : List Int) : Bool := colsB l && (decide (1 ≤ (l.length : Int)) && decide ((l.length : Int) ≤ 3))
def confOk (c : List Int) (s b : Int) : Bool := colsOk c && (decide (1 ≤ s) && decide (s ≤ 4)) && (decide (1 ≤ b) && decide (b ≤ 8))

@[simp] theorem t268 (k0 : Bool) (l : List Int) (h : l.length ≤ 1048576) : Gw TT 268 [.one (.ro k0 (.sl 1 (l.map ei)))] = some (vb (colsOk l), []) := by
  refine Gw_of (F := pf268) rfl rfl ?_
  show Wp _ pb268 _ _
  unfold pb268
  repeat' (first
    | with_reducible (first | refine wp_seq ?_ | refine wp_blk ?_ | refine wp_skip ?_ | refine wp_exit ?_ | refine wp_ret ?_ | refine seqQ_norm ?_ | refine seqQ_ret ?_ | refine seqQ_exit ?_ | refine blkQ_norm ?_ | refine blkQ_ret ?_ | refine blkQ_exit ?_ | refine loopQ_norm ?_ | refine loopQ_exit ?_ | refine loopQ_ret ?_ | refine endQ_ret ?_ | refine endQ_norm ?_ | refine endE_ret ?_ | refine endE_norm ?_ | refine endI_ret ?_ | refine endI_norm ?_)
    | (with_reducible refine wp_regK fun K hK => ?_
       simp
       repeat' (with_reducible first | refine hK _ ?_ | (refine psel ?_ ?_ <;> (intro hc; (try rw [Decidable.not_not] at hc); first | (exfalso; omega) | (try simp [hc]))))
       all_goals (clear hK; clear K))
    | (with_reducible refine wp_condE ?_
       refine ⟨_, rfl, ?_, ?_⟩ <;> (intro hc; (try simp at hc); (all_goals first | (exfalso; omega) | skip))))
  refine wp_loopI (σ := List (Int) × List (Int)) (fun s => [(0, AV.v k0 (D.sl 1 (l.map ei)), none), (3, AV.v false (di ((s.1.length : Nat) : Int)), none)]) (fun s => l = s.1 ++ s.2 ∧ colsB s.2 = colsB l) (fun s => s.2.length) ([], l) (by simp) ⟨rfl, rfl⟩ ?_
  rintro ⟨pre, rest⟩ ⟨h1, h2⟩
  simp only at h1 h2
  subst h1
  simp only [List.length_append, List.length_cons] at h
  rcases rest with _ | ⟨d, rest⟩
  · unfold pl268_0
    simp only [colsB] at h2
    repeat' (first
      | with_reducible (first | refine wp_seq ?_ | refine wp_blk ?_ | refine wp_skip ?_ | refine wp_exit ?_ | refine wp_ret ?_ | refine seqQ_norm ?_ | refine seqQ_ret ?_ | refine seqQ_exit ?_ | refine blkQ_norm ?_ | refine blkQ_ret ?_ | refine blkQ_exit ?_ | refine loopQ_norm ?_ | refine loopQ_exit ?_ | refine loopQ_ret ?_ | refine endQ_ret ?_ | refine endQ_norm ?_ | refine endE_ret ?_ | refine endE_norm ?_ | refine endI_ret ?_ | refine endI_norm ?_)
      | (with_reducible refine wp_regK fun K hK => ?_
         simp
         repeat' (with_reducible first | refine hK _ ?_ | (refine psel ?_ ?_ <;> (intro hc; (try rw [Decidable.not_not] at hc); first | (exfalso; omega) | (try simp [hc]))))
         all_goals (clear hK; clear K))
      | (with_reducible refine wp_condE ?_
         refine ⟨_, rfl, ?_, ?_⟩ <;> (intro hc; (try simp at hc); (all_goals first | (exfalso; omega) | skip))))
    all_goals first | (simp_all [pf268, colsOk]; done) | (simp_all [pf268, colsOk]; omega)
  · unfold pl268_0
    simp only [List.length_cons] at h
    simp only [colsB] at h2
    have hw : IntKind.wrap .i64 ((pre.length : Int) + 1) = (pre.length : Int) + 1 := wrap_i64 (by omega) (by omega)
    repeat' (first
      | with_reducible (first | refine wp_seq ?_ | refine wp_blk ?_ | refine wp_skip ?_ | refine wp_exit ?_ | refine wp_ret ?_ | refine seqQ_norm ?_ | refine seqQ_ret ?_ | refine seqQ_exit ?_ | refine blkQ_norm ?_ | refine blkQ_ret ?_ | refine blkQ_exit ?_ | refine loopQ_norm ?_ | refine loopQ_exit ?_ | refine loopQ_ret ?_ | refine endQ_ret ?_ | refine endQ_norm ?_ | refine endE_ret ?_ | refine endE_norm ?_ | refine endI_ret ?_ | refine endI_norm ?_)
      | (with_reducible refine wp_regK fun K hK => ?_
         simp[hw]
         repeat' (with_reducible first | refine hK _ ?_ | (refine psel ?_ ?_ <;> (intro hc; (try rw [Decidable.not_not] at hc); first | (exfalso; omega) | (try simp [hc, hw]))))
         all_goals (clear hK; clear K))
      | (with_reducible refine wp_condE ?_
         refine ⟨_, rfl, ?_, ?_⟩ <;> (intro hc; (try simp at hc); (all_goals first | (exfalso; omega) | skip))))
    all_goals first | (refine ⟨(pre ++ [d], rest), ?_, ⟨?_, ?_⟩, ?_⟩; (focus (first | (simp; done) | (simp_all; done))); (focus (simp; done)); (focus (refine Eq.trans ?_ h2; clear h2; first | (simp [*]; done) | (simp_all; done) | (split <;> simp_all <;> omega) | (split <;> first | (exfalso; omega) | (simp_all; done)))); (focus (simp; done))) | (simp_all [pf268, colsOk]; done) | (simp_all [pf268, colsOk]; omega) | (split at h2 <;> first | (exfalso; omega) | (simp_all [pf268, colsOk]; done))

attribute [irreducible] colsOk

def codeName (n : Int) : ByteArray := if n = 0 then ⟨#[111, 112, 101, 110]⟩ else if n = 1 then ⟨#[100, 111, 110, 101]⟩ else if n = 2 then ⟨#[110, 111, 110, 101]⟩ else if n = 3 then ⟨#[102, 117, 108, 108]⟩ else if n = 4 then ⟨#[102, 111, 114, 109]⟩ else if n = 5 then ⟨#[108, 111, 115, 116]⟩ else ⟨#[]⟩
def opName (n : Int) : ByteArray := if n = 0 then ⟨#[110, 111, 110, 101]⟩ else if n = 1 then ⟨#[112, 117, 116]⟩ else if n = 2 then ⟨#[100, 114, 111, 112]⟩ else if n = 3 then ⟨#[115, 99, 97, 110]⟩ else if n = 4 then ⟨#[112, 97, 99, 107]⟩ else ⟨#[]⟩

@[simp] theorem t11 (n : Int) : Gw TT 11 [vi n] = some (.one (.ro false (.str (codeName n))), []) := by
  refine Gw_of (F := pf11) rfl rfl ?_
  show Wp _ pb11 _ _
  unfold pb11
  repeat' (first
    | with_reducible (first | refine wp_seq ?_ | refine wp_blk ?_ | refine wp_skip ?_ | refine wp_exit ?_ | refine wp_ret ?_ | refine seqQ_norm ?_ | refine seqQ_ret ?_ | refine seqQ_exit ?_ | refine blkQ_norm ?_ | refine blkQ_ret ?_ | refine blkQ_exit ?_ | refine loopQ_norm ?_ | refine loopQ_exit ?_ | refine loopQ_ret ?_ | refine endQ_ret ?_ | refine endQ_norm ?_ | refine endE_ret ?_ | refine endE_norm ?_ | refine endI_ret ?_ | refine endI_norm ?_)
    | (with_reducible refine wp_regK fun K hK => ?_
       simp
       repeat' (with_reducible first | refine hK _ ?_ | (refine psel ?_ ?_ <;> (intro hc; (try rw [Decidable.not_not] at hc); first | (exfalso; omega) | (try simp [hc]))))
       all_goals (clear hK; clear K))
    | (with_reducible refine wp_condE ?_
       refine ⟨_, rfl, ?_, ?_⟩ <;> (intro hc; (try simp at hc); (all_goals first | (exfalso; omega) | skip))))
  · have : n ≠ 0 ∧ n ≠ 1 ∧ n ≠ 2 ∧ n ≠ 3 ∧ n ≠ 4 ∧ n ≠ 5 := by omega
    simp [pf11, codeName, this]
  · rcases (by omega : n = 0 ∨ n = 1 ∨ n = 2 ∨ n = 3 ∨ n = 4 ∨ n = 5) with rfl | rfl | rfl | rfl | rfl | rfl
    all_goals skip
    repeat' (first
      | with_reducible (first | refine wp_seq ?_ | refine wp_blk ?_ | refine wp_skip ?_ | refine wp_exit ?_ | refine wp_ret ?_ | refine seqQ_norm ?_ | refine seqQ_ret ?_ | refine seqQ_exit ?_ | refine blkQ_norm ?_ | refine blkQ_ret ?_ | refine blkQ_exit ?_ | refine loopQ_norm ?_ | refine loopQ_exit ?_ | refine loopQ_ret ?_ | refine endQ_ret ?_ | refine endQ_norm ?_ | refine endE_ret ?_ | refine endE_norm ?_ | refine endI_ret ?_ | refine endI_norm ?_)
      | (with_reducible refine wp_regK fun K hK => ?_
         simp
         repeat' (with_reducible first | refine hK _ ?_ | (refine psel ?_ ?_ <;> (intro hc; (try rw [Decidable.not_not] at hc); first | (exfalso; omega) | (try simp [hc]))))
         all_goals (clear hK; clear K))
      | (with_reducible refine wp_condE ?_
         refine ⟨_, rfl, ?_, ?_⟩ <;> (intro hc; (try simp at hc); (all_goals first | (exfalso; omega) | skip))))
    all_goals simp [pf11, codeName]

@[simp] theorem t267 (n : Int) : Gw TT 267 [vi n] = some (.one (.ro false (.str (codeName n))), []) := by
  refine Gw_of (F := pf267) rfl rfl ?_
  show Wp _ pb267 _ _
  unfold pb267
  repeat' (first
    | with_reducible (first | refine wp_seq ?_ | refine wp_blk ?_ | refine wp_skip ?_ | refine wp_exit ?_ | refine wp_ret ?_ | refine seqQ_norm ?_ | refine seqQ_ret ?_ | refine seqQ_exit ?_ | refine blkQ_norm ?_ | refine blkQ_ret ?_ | refine blkQ_exit ?_ | refine loopQ_norm ?_ | refine loopQ_exit ?_ | refine loopQ_ret ?_ | refine endQ_ret ?_ | refine endQ_norm ?_ | refine endE_ret ?_ | refine endE_norm ?_ | refine endI_ret ?_ | refine endI_norm ?_)
    | (with_reducible refine wp_regK fun K hK => ?_
       simp
       repeat' (with_reducible first | refine hK _ ?_ | (refine psel ?_ ?_ <;> (intro hc; (try rw [Decidable.not_not] at hc); first | (exfalso; omega) | (try simp [hc]))))
       all_goals (clear hK; clear K))
    | (with_reducible refine wp_condE ?_
       refine ⟨_, rfl, ?_, ?_⟩ <;> (intro hc; (try simp at hc); (all_goals first | (exfalso; omega) | skip))))
  · have : n ≠ 0 ∧ n ≠ 1 ∧ n ≠ 2 ∧ n ≠ 3 ∧ n ≠ 4 ∧ n ≠ 5 := by omega
    simp [pf267, codeName, this]
  · rcases (by omega : n = 0 ∨ n = 1 ∨ n = 2 ∨ n = 3 ∨ n = 4 ∨ n = 5) with rfl | rfl | rfl | rfl | rfl | rfl
    all_goals skip
    repeat' (first
      | with_reducible (first | refine wp_seq ?_ | refine wp_blk ?_ | refine wp_skip ?_ | refine wp_exit ?_ | refine wp_ret ?_ | refine seqQ_norm ?_ | refine seqQ_ret ?_ | refine seqQ_exit ?_ | refine blkQ_norm ?_ | refine blkQ_ret ?_ | refine blkQ_exit ?_ | refine loopQ_norm ?_ | refine loopQ_exit ?_ | refine loopQ_ret ?_ | refine endQ_ret ?_ | refine endQ_norm ?_ | refine endE_ret ?_ | refine endE_norm ?_ | refine endI_ret ?_ | refine endI_norm ?_)
      | (with_reducible refine wp_regK fun K hK => ?_
         simp
         repeat' (with_reducible first | refine hK _ ?_ | (refine psel ?_ ?_ <;> (intro hc; (try rw [Decidable.not_not] at hc); first | (exfalso; omega) | (try simp [hc]))))
         all_goals (clear hK; clear K))
      | (with_reducible refine wp_condE ?_
         refine ⟨_, rfl, ?_, ?_⟩ <;> (intro hc; (try simp at hc); (all_goals first | (exfalso; omega) | skip))))
    all_goals simp [pf267, codeName]

theorem zip_ex {α β : Type} : ∀ (l : List α) (m : List β), l.length = m.length → ∃ z : List (α × β), l = z.map Prod.fst ∧ m = z.map Prod.snd
  | [], [], _ => ⟨[], rfl, rfl⟩
  | a :: l, b :: m, h => by
    obtain ⟨z, rfl, rfl⟩ := zip_ex l m (by simpa using h)
    exact ⟨(a, b) :: z, rfl, rfl⟩

theorem zip_map {α β : Type} (z : List (α × β)) : (z.map Prod.fst).zip (z.map Prod.snd) = z := by
  induction z with
  | nil => rfl
  | cons p z ih => simp [ih]

@[simp] theorem t5 (k0 k1 : Bool) (x_Op : Int) (x_Task : Int) (x_R : List XVal) (x_Id : Int) (x_Q_Kind : Int) (x_Q_P_Kind : Int) (x_Q_P_Col : Int) (x_Q_P_Op : Int) (x_Q_P_V_Ty : Int) (x_Q_P_V_N : Int) (x_Q_P_V_S : ByteArray) (x_Q_P_L : List XPred) (x_Q_Col : Int) (x_Q_Out : List Int) (x_Res_Rows : List XRow) (x_Res_N : Int) (x_Res_Has : Bool) (x_Res_V_Ty : Int) (x_Res_V_N : Int) (x_Res_V_S : ByteArray) (x_Code : Int) (x_Stamp : Int) (x_Inv : Int) (x_Lin : Int) (x_Ret : Int) (y_Op : Int) (y_Task : Int) (y_R : List XVal) (y_Id : Int) (y_Q_Kind : Int) (y_Q_P_Kind : Int) (y_Q_P_Col : Int) (y_Q_P_Op : Int) (y_Q_P_V_Ty : Int) (y_Q_P_V_N : Int) (y_Q_P_V_S : ByteArray) (y_Q_P_L : List XPred) (y_Q_Col : Int) (y_Q_Out : List Int) (y_Res_Rows : List XRow) (y_Res_N : Int) (y_Res_Has : Bool) (y_Res_V_Ty : Int) (y_Res_V_N : Int) (y_Res_V_S : ByteArray) (y_Code : Int) (y_Stamp : Int) (y_Inv : Int) (y_Lin : Int) (y_Ret : Int) : Gw TT 5 [.st [.ro false (di x_Op), .ro false (di x_Task), .ro k0 (.sl 3 (x_R.map XVal.e)), .ro false (di x_Id), .ro false (di x_Q_Kind), .ro false (di x_Q_P_Kind), .ro false (di x_Q_P_Col), .ro false (di x_Q_P_Op), .ro false (di x_Q_P_V_Ty), .ro false (di x_Q_P_V_N), .ro false (.str x_Q_P_V_S), .ro k0 (.sl 7 (x_Q_P_L.map XPred.e)), .ro false (di x_Q_Col), .ro k0 (.sl 1 (x_Q_Out.map ei)), .ro k0 (.sl 2 (x_Res_Rows.map XRow.e)), .ro false (di x_Res_N), .ro false (.bool x_Res_Has), .ro false (di x_Res_V_Ty), .ro false (di x_Res_V_N), .ro false (.str x_Res_V_S), .ro false (di x_Code), .ro false (di x_Stamp), .ro false (di x_Inv), .ro false (di x_Lin), .ro false (di x_Ret)], .st [.ro false (di y_Op), .ro false (di y_Task), .ro k1 (.sl 3 (y_R.map XVal.e)), .ro false (di y_Id), .ro false (di y_Q_Kind), .ro false (di y_Q_P_Kind), .ro false (di y_Q_P_Col), .ro false (di y_Q_P_Op), .ro false (di y_Q_P_V_Ty), .ro false (di y_Q_P_V_N), .ro false (.str y_Q_P_V_S), .ro k1 (.sl 7 (y_Q_P_L.map XPred.e)), .ro false (di y_Q_Col), .ro k1 (.sl 1 (y_Q_Out.map ei)), .ro k1 (.sl 2 (y_Res_Rows.map XRow.e)), .ro false (di y_Res_N), .ro false (.bool y_Res_Has), .ro false (di y_Res_V_Ty), .ro false (di y_Res_V_N), .ro false (.str y_Res_V_S), .ro false (di y_Code), .ro false (di y_Stamp), .ro false (di y_Inv), .ro false (di y_Lin), .ro false (di y_Ret)]] = some (vb ((x_Ret != -1) && decide (x_Ret < y_Inv)), []) := by
  refine Gw_of (F := pf5) rfl rfl ?_
  show Wp _ pb5 _ _
  unfold pb5
  repeat' (first
    | with_reducible (first | refine wp_seq ?_ | refine wp_blk ?_ | refine wp_skip ?_ | refine wp_exit ?_ | refine wp_ret ?_ | refine seqQ_norm ?_ | refine seqQ_ret ?_ | refine seqQ_exit ?_ | refine blkQ_norm ?_ | refine blkQ_ret ?_ | refine blkQ_exit ?_ | refine loopQ_norm ?_ | refine loopQ_exit ?_ | refine loopQ_ret ?_ | refine endQ_ret ?_ | refine endQ_norm ?_ | refine endE_ret ?_ | refine endE_norm ?_ | refine endI_ret ?_ | refine endI_norm ?_)
    | (with_reducible refine wp_regK fun K hK => ?_
       simp
       repeat' (with_reducible first | refine hK _ ?_ | (refine psel ?_ ?_ <;> (intro hc; (try rw [Decidable.not_not] at hc); first | (exfalso; omega) | (try simp [hc]))))
       all_goals (clear hK; clear K))
    | (with_reducible refine wp_condE ?_
       refine ⟨_, rfl, ?_, ?_⟩ <;> (intro hc; (try simp at hc); (all_goals first | (exfalso; omega) | skip))))
  all_goals first | (simp_all [pf5]; done) | (simp_all [pf5]; omega)

@[simp] theorem t261 (k0 k1 : Bool) (x_Op : Int) (x_Task : Int) (x_R : List XVal) (x_Id : Int) (x_Q_Kind : Int) (x_Q_P_Kind : Int) (x_Q_P_Col : Int) (x_Q_P_Op : Int) (x_Q_P_V_Ty : Int) (x_Q_P_V_N : Int) (x_Q_P_V_S : ByteArray) (x_Q_P_L : List XPred) (x_Q_Col : Int) (x_Q_Out : List Int) (x_Res_Rows : List XRow) (x_Res_N : Int) (x_Res_Has : Bool) (x_Res_V_Ty : Int) (x_Res_V_N : Int) (x_Res_V_S : ByteArray) (x_Code : Int) (x_Stamp : Int) (x_Inv : Int) (x_Lin : Int) (x_Ret : Int) (y_Op : Int) (y_Task : Int) (y_R : List XVal) (y_Id : Int) (y_Q_Kind : Int) (y_Q_P_Kind : Int) (y_Q_P_Col : Int) (y_Q_P_Op : Int) (y_Q_P_V_Ty : Int) (y_Q_P_V_N : Int) (y_Q_P_V_S : ByteArray) (y_Q_P_L : List XPred) (y_Q_Col : Int) (y_Q_Out : List Int) (y_Res_Rows : List XRow) (y_Res_N : Int) (y_Res_Has : Bool) (y_Res_V_Ty : Int) (y_Res_V_N : Int) (y_Res_V_S : ByteArray) (y_Code : Int) (y_Stamp : Int) (y_Inv : Int) (y_Lin : Int) (y_Ret : Int) : Gw TT 261 [.st [.ro false (di x_Op), .ro false (di x_Task), .ro k0 (.sl 3 (x_R.map XVal.e)), .ro false (di x_Id), .ro false (di x_Q_Kind), .ro false (di x_Q_P_Kind), .ro false (di x_Q_P_Col), .ro false (di x_Q_P_Op), .ro false (di x_Q_P_V_Ty), .ro false (di x_Q_P_V_N), .ro false (.str x_Q_P_V_S), .ro k0 (.sl 7 (x_Q_P_L.map XPred.e)), .ro false (di x_Q_Col), .ro k0 (.sl 1 (x_Q_Out.map ei)), .ro k0 (.sl 2 (x_Res_Rows.map XRow.e)), .ro false (di x_Res_N), .ro false (.bool x_Res_Has), .ro false (di x_Res_V_Ty), .ro false (di x_Res_V_N), .ro false (.str x_Res_V_S), .ro false (di x_Code), .ro false (di x_Stamp), .ro false (di x_Inv), .ro false (di x_Lin), .ro false (di x_Ret)], .st [.ro false (di y_Op), .ro false (di y_Task), .ro k1 (.sl 3 (y_R.map XVal.e)), .ro false (di y_Id), .ro false (di y_Q_Kind), .ro false (di y_Q_P_Kind), .ro false (di y_Q_P_Col), .ro false (di y_Q_P_Op), .ro false (di y_Q_P_V_Ty), .ro false (di y_Q_P_V_N), .ro false (.str y_Q_P_V_S), .ro k1 (.sl 7 (y_Q_P_L.map XPred.e)), .ro false (di y_Q_Col), .ro k1 (.sl 1 (y_Q_Out.map ei)), .ro k1 (.sl 2 (y_Res_Rows.map XRow.e)), .ro false (di y_Res_N), .ro false (.bool y_Res_Has), .ro false (di y_Res_V_Ty), .ro false (di y_Res_V_N), .ro false (.str y_Res_V_S), .ro false (di y_Code), .ro false (di y_Stamp), .ro false (di y_Inv), .ro false (di y_Lin), .ro false (di y_Ret)]] = some (vb ((x_Ret != -1) && decide (x_Ret < y_Inv)), []) := by
  refine Gw_of (F := pf261) rfl rfl ?_
  show Wp _ pb261 _ _
  unfold pb261
  repeat' (first
    | with_reducible (first | refine wp_seq ?_ | refine wp_blk ?_ | refine wp_skip ?_ | refine wp_exit ?_ | refine wp_ret ?_ | refine seqQ_norm ?_ | refine seqQ_ret ?_ | refine seqQ_exit ?_ | refine blkQ_norm ?_ | refine blkQ_ret ?_ | refine blkQ_exit ?_ | refine loopQ_norm ?_ | refine loopQ_exit ?_ | refine loopQ_ret ?_ | refine endQ_ret ?_ | refine endQ_norm ?_ | refine endE_ret ?_ | refine endE_norm ?_ | refine endI_ret ?_ | refine endI_norm ?_)
    | (with_reducible refine wp_regK fun K hK => ?_
       simp
       repeat' (with_reducible first | refine hK _ ?_ | (refine psel ?_ ?_ <;> (intro hc; (try rw [Decidable.not_not] at hc); first | (exfalso; omega) | (try simp [hc]))))
       all_goals (clear hK; clear K))
    | (with_reducible refine wp_condE ?_
       refine ⟨_, rfl, ?_, ?_⟩ <;> (intro hc; (try simp at hc); (all_goals first | (exfalso; omega) | skip))))
  all_goals first | (simp_all [pf261]; done) | (simp_all [pf261]; omega)

def deedOkB (op task code stamp inv id lin ret : Int) : Bool :=
  decide (1 ≤ op ∧ op ≤ 4 ∧ 0 ≤ task ∧ task ≤ 4 ∧ 0 ≤ code ∧ code ≤ 5 ∧ 0 ≤ stamp ∧ 0 ≤ inv ∧ -1 ≤ id ∧ (lin = -1 ∨ inv ≤ lin) ∧ (ret = -1 ∨ (lin ≠ -1 ∧ lin ≤ ret)))

@[simp] theorem t14 (k0 : Bool) (x_Op : Int) (x_Task : Int) (x_R : List XVal) (x_Id : Int) (x_Q_Kind : Int) (x_Q_P_Kind : Int) (x_Q_P_Col : Int) (x_Q_P_Op : Int) (x_Q_P_V_Ty : Int) (x_Q_P_V_N : Int) (x_Q_P_V_S : ByteArray) (x_Q_P_L : List XPred) (x_Q_Col : Int) (x_Q_Out : List Int) (x_Res_Rows : List XRow) (x_Res_N : Int) (x_Res_Has : Bool) (x_Res_V_Ty : Int) (x_Res_V_N : Int) (x_Res_V_S : ByteArray) (x_Code : Int) (x_Stamp : Int) (x_Inv : Int) (x_Lin : Int) (x_Ret : Int) : Gw TT 14 [.st [.ro false (di x_Op), .ro false (di x_Task), .ro k0 (.sl 3 (x_R.map XVal.e)), .ro false (di x_Id), .ro false (di x_Q_Kind), .ro false (di x_Q_P_Kind), .ro false (di x_Q_P_Col), .ro false (di x_Q_P_Op), .ro false (di x_Q_P_V_Ty), .ro false (di x_Q_P_V_N), .ro false (.str x_Q_P_V_S), .ro k0 (.sl 7 (x_Q_P_L.map XPred.e)), .ro false (di x_Q_Col), .ro k0 (.sl 1 (x_Q_Out.map ei)), .ro k0 (.sl 2 (x_Res_Rows.map XRow.e)), .ro false (di x_Res_N), .ro false (.bool x_Res_Has), .ro false (di x_Res_V_Ty), .ro false (di x_Res_V_N), .ro false (.str x_Res_V_S), .ro false (di x_Code), .ro false (di x_Stamp), .ro false (di x_Inv), .ro false (di x_Lin), .ro false (di x_Ret)]] = some (vb (deedOkB x_Op x_Task x_Code x_Stamp x_Inv x_Id x_Lin x_Ret), []) := by
  refine Gw_of (F := pf14) rfl rfl ?_
  show Wp _ pb14 _ _
  unfold pb14
  repeat' (first
    | with_reducible (first | refine wp_seq ?_ | refine wp_blk ?_ | refine wp_skip ?_ | refine wp_exit ?_ | refine wp_ret ?_ | refine seqQ_norm ?_ | refine seqQ_ret ?_ | refine seqQ_exit ?_ | refine blkQ_norm ?_ | refine blkQ_ret ?_ | refine blkQ_exit ?_ | refine loopQ_norm ?_ | refine loopQ_exit ?_ | refine loopQ_ret ?_ | refine endQ_ret ?_ | refine endQ_norm ?_ | refine endE_ret ?_ | refine endE_norm ?_ | refine endI_ret ?_ | refine endI_norm ?_)
    | (with_reducible refine wp_regK fun K hK => ?_
       simp
       repeat' (with_reducible first | refine hK _ ?_ | (refine psel ?_ ?_ <;> (intro hc; (try rw [Decidable.not_not] at hc); first | (exfalso; omega) | (try simp [hc]))))
       all_goals (clear hK; clear K))
    | (with_reducible refine wp_condE ?_
       refine ⟨_, rfl, ?_, ?_⟩ <;> (intro hc; (try simp at hc); (all_goals first | (exfalso; omega) | skip))))
  all_goals first | (simp_all [pf14, deedOkB]; done) | (simp [pf14, deedOkB]; omega)

@[simp] theorem t270 (k0 : Bool) (x_Op : Int) (x_Task : Int) (x_R : List XVal) (x_Id : Int) (x_Q_Kind : Int) (x_Q_P_Kind : Int) (x_Q_P_Col : Int) (x_Q_P_Op : Int) (x_Q_P_V_Ty : Int) (x_Q_P_V_N : Int) (x_Q_P_V_S : ByteArray) (x_Q_P_L : List XPred) (x_Q_Col : Int) (x_Q_Out : List Int) (x_Res_Rows : List XRow) (x_Res_N : Int) (x_Res_Has : Bool) (x_Res_V_Ty : Int) (x_Res_V_N : Int) (x_Res_V_S : ByteArray) (x_Code : Int) (x_Stamp : Int) (x_Inv : Int) (x_Lin : Int) (x_Ret : Int) : Gw TT 270 [.st [.ro false (di x_Op), .ro false (di x_Task), .ro k0 (.sl 3 (x_R.map XVal.e)), .ro false (di x_Id), .ro false (di x_Q_Kind), .ro false (di x_Q_P_Kind), .ro false (di x_Q_P_Col), .ro false (di x_Q_P_Op), .ro false (di x_Q_P_V_Ty), .ro false (di x_Q_P_V_N), .ro false (.str x_Q_P_V_S), .ro k0 (.sl 7 (x_Q_P_L.map XPred.e)), .ro false (di x_Q_Col), .ro k0 (.sl 1 (x_Q_Out.map ei)), .ro k0 (.sl 2 (x_Res_Rows.map XRow.e)), .ro false (di x_Res_N), .ro false (.bool x_Res_Has), .ro false (di x_Res_V_Ty), .ro false (di x_Res_V_N), .ro false (.str x_Res_V_S), .ro false (di x_Code), .ro false (di x_Stamp), .ro false (di x_Inv), .ro false (di x_Lin), .ro false (di x_Ret)]] = some (vb (deedOkB x_Op x_Task x_Code x_Stamp x_Inv x_Id x_Lin x_Ret), []) := by
  refine Gw_of (F := pf270) rfl rfl ?_
  show Wp _ pb270 _ _
  unfold pb270
  repeat' (first
    | with_reducible (first | refine wp_seq ?_ | refine wp_blk ?_ | refine wp_skip ?_ | refine wp_exit ?_ | refine wp_ret ?_ | refine seqQ_norm ?_ | refine seqQ_ret ?_ | refine seqQ_exit ?_ | refine blkQ_norm ?_ | refine blkQ_ret ?_ | refine blkQ_exit ?_ | refine loopQ_norm ?_ | refine loopQ_exit ?_ | refine loopQ_ret ?_ | refine endQ_ret ?_ | refine endQ_norm ?_ | refine endE_ret ?_ | refine endE_norm ?_ | refine endI_ret ?_ | refine endI_norm ?_)
    | (with_reducible refine wp_regK fun K hK => ?_
       simp
       repeat' (with_reducible first | refine hK _ ?_ | (refine psel ?_ ?_ <;> (intro hc; (try rw [Decidable.not_not] at hc); first | (exfalso; omega) | (try simp [hc]))))
       all_goals (clear hK; clear K))
    | (with_reducible refine wp_condE ?_
       refine ⟨_, rfl, ?_, ?_⟩ <;> (intro hc; (try simp at hc); (all_goals first | (exfalso; omega) | skip))))
  all_goals first | (simp_all [pf270, deedOkB]; done) | (simp [pf270, deedOkB]; omega)

def putOfF (id : Int) : Int → List XDeed → Int
  | _, [] => -1
  | i, d :: l => if 0 ≤ id ∧ d.Op = 1 ∧ d.Id = id then i else putOfF id (i + 1) l
def freeOfF : Int → List XBuf → Int
  | n, [] => n
  | n, d :: l => if d.Kind = 0 then freeOfF (IntKind.wrap .i64 (n + 1)) l else freeOfF n l

@[simp] theorem t40 (k0 : Bool) (l : List XDeed) (e : Int) (h : l.length ≤ 1048576) : Gw TT 40 [.one (.ro k0 (.sl 25 (l.map XDeed.e))), vi e] = some (vi (putOfF e 0 l), []) := by
  refine Gw_of (F := pf40) rfl rfl ?_
  show Wp _ pb40 _ _
  unfold pb40
  repeat' (first
    | with_reducible (first | refine wp_seq ?_ | refine wp_blk ?_ | refine wp_skip ?_ | refine wp_exit ?_ | refine wp_ret ?_ | refine seqQ_norm ?_ | refine seqQ_ret ?_ | refine seqQ_exit ?_ | refine blkQ_norm ?_ | refine blkQ_ret ?_ | refine blkQ_exit ?_ | refine loopQ_norm ?_ | refine loopQ_exit ?_ | refine loopQ_ret ?_ | refine endQ_ret ?_ | refine endQ_norm ?_ | refine endE_ret ?_ | refine endE_norm ?_ | refine endI_ret ?_ | refine endI_norm ?_)
    | (with_reducible refine wp_regK fun K hK => ?_
       simp
       repeat' (with_reducible first | refine hK _ ?_ | (refine psel ?_ ?_ <;> (intro hc; (try rw [Decidable.not_not] at hc); first | (exfalso; omega) | (try simp [hc]))))
       all_goals (clear hK; clear K))
    | (with_reducible refine wp_condE ?_
       refine ⟨_, rfl, ?_, ?_⟩ <;> (intro hc; (try simp at hc); (all_goals first | (exfalso; omega) | skip))))
  refine wp_loopI (σ := List (XDeed) × List (XDeed)) (fun s => [(1, AV.v false (di e), none), (7, AV.v k0 (D.sl 25 (l.map XDeed.e)), none), (8, AV.v false (di (l.length : Nat)), none), (9, AV.v false (di ((s.1.length : Nat) : Int)), none)]) (fun s => l = s.1 ++ s.2 ∧ putOfF e ((s.1.length : Nat) : Int) s.2 = putOfF e (0 : Int) l) (fun s => s.2.length) ([], l) (by simp) ⟨rfl, rfl⟩ ?_
  rintro ⟨pre, rest⟩ ⟨h1, h2⟩
  simp only at h1 h2
  subst h1
  simp only [List.length_append, List.length_cons] at h
  rcases rest with _ | ⟨d, rest⟩
  · unfold pl40_0
    simp only [putOfF] at h2
    repeat' (first
      | with_reducible (first | refine wp_seq ?_ | refine wp_blk ?_ | refine wp_skip ?_ | refine wp_exit ?_ | refine wp_ret ?_ | refine seqQ_norm ?_ | refine seqQ_ret ?_ | refine seqQ_exit ?_ | refine blkQ_norm ?_ | refine blkQ_ret ?_ | refine blkQ_exit ?_ | refine loopQ_norm ?_ | refine loopQ_exit ?_ | refine loopQ_ret ?_ | refine endQ_ret ?_ | refine endQ_norm ?_ | refine endE_ret ?_ | refine endE_norm ?_ | refine endI_ret ?_ | refine endI_norm ?_)
      | (with_reducible refine wp_regK fun K hK => ?_
         simp
         repeat' (with_reducible first | refine hK _ ?_ | (refine psel ?_ ?_ <;> (intro hc; (try rw [Decidable.not_not] at hc); first | (exfalso; omega) | (try simp [hc]))))
         all_goals (clear hK; clear K))
      | (with_reducible refine wp_condE ?_
         refine ⟨_, rfl, ?_, ?_⟩ <;> (intro hc; (try simp at hc); (all_goals first | (exfalso; omega) | skip))))
    all_goals first | (simp_all [pf40]; done) | (simp_all [pf40]; omega)
  · unfold pl40_0
    simp only [List.length_cons] at h
    simp only [putOfF] at h2
    have hw : IntKind.wrap .i64 ((pre.length : Int) + 1) = (pre.length : Int) + 1 := wrap_i64 (by omega) (by omega)
    repeat' (first
      | with_reducible (first | refine wp_seq ?_ | refine wp_blk ?_ | refine wp_skip ?_ | refine wp_exit ?_ | refine wp_ret ?_ | refine seqQ_norm ?_ | refine seqQ_ret ?_ | refine seqQ_exit ?_ | refine blkQ_norm ?_ | refine blkQ_ret ?_ | refine blkQ_exit ?_ | refine loopQ_norm ?_ | refine loopQ_exit ?_ | refine loopQ_ret ?_ | refine endQ_ret ?_ | refine endQ_norm ?_ | refine endE_ret ?_ | refine endE_norm ?_ | refine endI_ret ?_ | refine endI_norm ?_)
      | (with_reducible refine wp_regK fun K hK => ?_
         simp[hw]
         repeat' (with_reducible first | refine hK _ ?_ | (refine psel ?_ ?_ <;> (intro hc; (try rw [Decidable.not_not] at hc); first | (exfalso; omega) | (try simp [hc, hw]))))
         all_goals (clear hK; clear K))
      | (with_reducible refine wp_condE ?_
         refine ⟨_, rfl, ?_, ?_⟩ <;> (intro hc; (try simp at hc); (all_goals first | (exfalso; omega) | skip))))
    all_goals first | (refine ⟨(pre ++ [d], rest), ?_, ⟨?_, ?_⟩, ?_⟩; (focus (first | (simp; done) | (simp_all; done))); (focus (simp; done)); (focus (refine Eq.trans ?_ h2; clear h2; first | (simp [*]; done) | (simp_all; done) | (split <;> simp_all <;> omega) | (split <;> first | (exfalso; omega) | (simp_all; done)))); (focus (simp; done))) | (simp_all [pf40]; done) | (simp_all [pf40]; omega) | (split at h2 <;> first | (exfalso; omega) | (simp_all [pf40]; done))

@[simp] theorem t321 (k0 : Bool) (l : List XDeed) (e : Int) (h : l.length ≤ 1048576) : Gw TT 321 [.one (.ro k0 (.sl 25 (l.map XDeed.e))), vi e] = some (vi (putOfF e 0 l), []) := by
  refine Gw_of (F := pf321) rfl rfl ?_
  show Wp _ pb321 _ _
  unfold pb321
  repeat' (first
    | with_reducible (first | refine wp_seq ?_ | refine wp_blk ?_ | refine wp_skip ?_ | refine wp_exit ?_ | refine wp_ret ?_ | refine seqQ_norm ?_ | refine seqQ_ret ?_ | refine seqQ_exit ?_ | refine blkQ_norm ?_ | refine blkQ_ret ?_ | refine blkQ_exit ?_ | refine loopQ_norm ?_ | refine loopQ_exit ?_ | refine loopQ_ret ?_ | refine endQ_ret ?_ | refine endQ_norm ?_ | refine endE_ret ?_ | refine endE_norm ?_ | refine endI_ret ?_ | refine endI_norm ?_)
    | (with_reducible refine wp_regK fun K hK => ?_
       simp
       repeat' (with_reducible first | refine hK _ ?_ | (refine psel ?_ ?_ <;> (intro hc; (try rw [Decidable.not_not] at hc); first | (exfalso; omega) | (try simp [hc]))))
       all_goals (clear hK; clear K))
    | (with_reducible refine wp_condE ?_
       refine ⟨_, rfl, ?_, ?_⟩ <;> (intro hc; (try simp at hc); (all_goals first | (exfalso; omega) | skip))))
  refine wp_loopI (σ := List (XDeed) × List (XDeed)) (fun s => [(0, AV.v k0 (D.sl 25 (l.map XDeed.e)), none), (1, AV.v false (di e), none), (5, AV.v false (di ((s.1.length : Nat) : Int)), none)]) (fun s => l = s.1 ++ s.2 ∧ putOfF e ((s.1.length : Nat) : Int) s.2 = putOfF e (0 : Int) l) (fun s => s.2.length) ([], l) (by simp) ⟨rfl, rfl⟩ ?_
  rintro ⟨pre, rest⟩ ⟨h1, h2⟩
  simp only at h1 h2
  subst h1
  simp only [List.length_append, List.length_cons] at h
  rcases rest with _ | ⟨d, rest⟩
  · unfold pl321_0
    simp only [putOfF] at h2
    repeat' (first
      | with_reducible (first | refine wp_seq ?_ | refine wp_blk ?_ | refine wp_skip ?_ | refine wp_exit ?_ | refine wp_ret ?_ | refine seqQ_norm ?_ | refine seqQ_ret ?_ | refine seqQ_exit ?_ | refine blkQ_norm ?_ | refine blkQ_ret ?_ | refine blkQ_exit ?_ | refine loopQ_norm ?_ | refine loopQ_exit ?_ | refine loopQ_ret ?_ | refine endQ_ret ?_ | refine endQ_norm ?_ | refine endE_ret ?_ | refine endE_norm ?_ | refine endI_ret ?_ | refine endI_norm ?_)
      | (with_reducible refine wp_regK fun K hK => ?_
         simp
         repeat' (with_reducible first | refine hK _ ?_ | (refine psel ?_ ?_ <;> (intro hc; (try rw [Decidable.not_not] at hc); first | (exfalso; omega) | (try simp [hc]))))
         all_goals (clear hK; clear K))
      | (with_reducible refine wp_condE ?_
         refine ⟨_, rfl, ?_, ?_⟩ <;> (intro hc; (try simp at hc); (all_goals first | (exfalso; omega) | skip))))
    all_goals first | (simp_all [pf321]; done) | (simp_all [pf321]; omega)
  · unfold pl321_0
    simp only [List.length_cons] at h
    simp only [putOfF] at h2
    have hw : IntKind.wrap .i64 ((pre.length : Int) + 1) = (pre.length : Int) + 1 := wrap_i64 (by omega) (by omega)
    repeat' (first
      | with_reducible (first | refine wp_seq ?_ | refine wp_blk ?_ | refine wp_skip ?_ | refine wp_exit ?_ | refine wp_ret ?_ | refine seqQ_norm ?_ | refine seqQ_ret ?_ | refine seqQ_exit ?_ | refine blkQ_norm ?_ | refine blkQ_ret ?_ | refine blkQ_exit ?_ | refine loopQ_norm ?_ | refine loopQ_exit ?_ | refine loopQ_ret ?_ | refine endQ_ret ?_ | refine endQ_norm ?_ | refine endE_ret ?_ | refine endE_norm ?_ | refine endI_ret ?_ | refine endI_norm ?_)
      | (with_reducible refine wp_regK fun K hK => ?_
         simp[hw]
         repeat' (with_reducible first | refine hK _ ?_ | (refine psel ?_ ?_ <;> (intro hc; (try rw [Decidable.not_not] at hc); first | (exfalso; omega) | (try simp [hc, hw]))))
         all_goals (clear hK; clear K))
      | (with_reducible refine wp_condE ?_
         refine ⟨_, rfl, ?_, ?_⟩ <;> (intro hc; (try simp at hc); (all_goals first | (exfalso; omega) | skip))))
    all_goals first | (refine ⟨(pre ++ [d], rest), ?_, ⟨?_, ?_⟩, ?_⟩; (focus (first | (simp; done) | (simp_all; done))); (focus (simp; done)); (focus (refine Eq.trans ?_ h2; clear h2; first | (simp [*]; done) | (simp_all; done) | (split <;> simp_all <;> omega) | (split <;> first | (exfalso; omega) | (simp_all; done)))); (focus (simp; done))) | (simp_all [pf321]; done) | (simp_all [pf321]; omega) | (split at h2 <;> first | (exfalso; omega) | (simp_all [pf321]; done))

@[simp] theorem take_mid {α : Type} {n : Nat} (l r : List α) (h : n = l.length) : (l ++ r).take n = l := by subst h; simp

def valEq (a b : XVal) : Bool := a.Ty == b.Ty && (a.N == b.N && a.S.toList == b.S.toList)
def intEq (a b : Int) : Bool := a == b

def valsZ : List (XVal × XVal) → Bool
  | [] => true
  | d :: z => if valEq d.1 d.2 = true then valsZ z else false
def sameValsF (l m : List XVal) : Bool := if l.length = m.length then valsZ (l.zip m) else false

def intsZ : List (Int × Int) → Bool
  | [] => true
  | d :: z => if intEq d.1 d.2 = true then intsZ z else false
def sameIntsF (l m : List Int) : Bool := if l.length = m.length then intsZ (l.zip m) else false

theorem t404z (k0 k1 : Bool) (z : List (XVal × XVal)) (h : z.length ≤ 1048576)  : Gw TT 404 [.one (.ro k0 (.sl 3 (z.map (XVal.e ∘ Prod.fst)))), .one (.ro k1 (.sl 3 (z.map (XVal.e ∘ Prod.snd))))] = some (vb (valsZ z), []) := by
  refine Gw_of (F := pf404) rfl rfl ?_
  show Wp _ pb404 _ _
  unfold pb404
  repeat' (first
    | with_reducible (first | refine wp_seq ?_ | refine wp_blk ?_ | refine wp_skip ?_ | refine wp_exit ?_ | refine wp_ret ?_ | refine seqQ_norm ?_ | refine seqQ_ret ?_ | refine seqQ_exit ?_ | refine blkQ_norm ?_ | refine blkQ_ret ?_ | refine blkQ_exit ?_ | refine loopQ_norm ?_ | refine loopQ_exit ?_ | refine loopQ_ret ?_ | refine endQ_ret ?_ | refine endQ_norm ?_ | refine endE_ret ?_ | refine endE_norm ?_ | refine endI_ret ?_ | refine endI_norm ?_)
    | (with_reducible refine wp_regK fun K hK => ?_
       simp
       repeat' (with_reducible first | refine hK _ ?_ | (refine psel ?_ ?_ <;> (intro hc; (try rw [Decidable.not_not] at hc); first | (exfalso; omega) | (try simp [hc]))))
       all_goals (clear hK; clear K))
    | (with_reducible refine wp_condE ?_
       refine ⟨_, rfl, ?_, ?_⟩ <;> (intro hc; (try simp at hc); (all_goals first | (exfalso; omega) | skip))))
  refine wp_loopI (σ := List (XVal × XVal) × List (XVal × XVal)) (fun s => [(0, AV.v k0 (D.sl 3 (z.map (XVal.e ∘ Prod.fst))), none), (1, AV.v k1 (D.sl 3 (z.map (XVal.e ∘ Prod.snd))), none), (12, AV.v false (di (z.length : Nat)), none), (13, AV.v false (di ((s.1.length : Nat) : Int)), none)]) (fun s => z = s.1 ++ s.2 ∧ valsZ s.2 = valsZ z) (fun s => s.2.length) ([], z) (by simp) ⟨rfl, rfl⟩ ?_
  rintro ⟨pre, rest⟩ ⟨h1, h2⟩
  simp only at h1 h2
  subst h1
  simp only [List.length_append, List.length_cons] at h
  rcases rest with _ | ⟨d, rest⟩
  · unfold pl404_0
    simp only [valsZ, valEq, Bool.and_eq_true, beq_iff_eq] at h2
    repeat' (first
      | with_reducible (first | refine wp_seq ?_ | refine wp_blk ?_ | refine wp_skip ?_ | refine wp_exit ?_ | refine wp_ret ?_ | refine seqQ_norm ?_ | refine seqQ_ret ?_ | refine seqQ_exit ?_ | refine blkQ_norm ?_ | refine blkQ_ret ?_ | refine blkQ_exit ?_ | refine loopQ_norm ?_ | refine loopQ_exit ?_ | refine loopQ_ret ?_ | refine endQ_ret ?_ | refine endQ_norm ?_ | refine endE_ret ?_ | refine endE_norm ?_ | refine endI_ret ?_ | refine endI_norm ?_)
      | (with_reducible refine wp_regK fun K hK => ?_
         simp
         repeat' (with_reducible first | refine hK _ ?_ | (refine psel ?_ ?_ <;> (intro hc; (try rw [Decidable.not_not] at hc); first | (exfalso; omega) | (try simp [hc]))))
         all_goals (clear hK; clear K))
      | (with_reducible refine wp_condE ?_
         refine ⟨_, rfl, ?_, ?_⟩ <;> (intro hc; (try simp at hc); (all_goals first | (exfalso; omega) | skip))))
    all_goals first | (simp_all [pf404]; done) | (simp_all [pf404]; omega)
  · unfold pl404_0
    simp only [List.length_cons] at h
    simp only [valsZ, valEq, Bool.and_eq_true, beq_iff_eq] at h2
    have hw : IntKind.wrap .i64 ((pre.length : Int) + 1) = (pre.length : Int) + 1 := wrap_i64 (by omega) (by omega)
    repeat' (first
      | with_reducible (first | refine wp_seq ?_ | refine wp_blk ?_ | refine wp_skip ?_ | refine wp_exit ?_ | refine wp_ret ?_ | refine seqQ_norm ?_ | refine seqQ_ret ?_ | refine seqQ_exit ?_ | refine blkQ_norm ?_ | refine blkQ_ret ?_ | refine blkQ_exit ?_ | refine loopQ_norm ?_ | refine loopQ_exit ?_ | refine loopQ_ret ?_ | refine endQ_ret ?_ | refine endQ_norm ?_ | refine endE_ret ?_ | refine endE_norm ?_ | refine endI_ret ?_ | refine endI_norm ?_)
      | (with_reducible refine wp_regK fun K hK => ?_
         simp[hw]
         repeat' (with_reducible first | refine hK _ ?_ | (refine psel ?_ ?_ <;> (intro hc; (try rw [Decidable.not_not] at hc); first | (exfalso; omega) | (try simp [hc, hw]))))
         all_goals (clear hK; clear K))
      | (with_reducible refine wp_condE ?_
         refine ⟨_, rfl, ?_, ?_⟩ <;> (intro hc; (try simp at hc); (all_goals first | (exfalso; omega) | skip))))
    all_goals first | (refine ⟨(pre ++ [d], rest), ?_, ⟨?_, ?_⟩, ?_⟩; (focus (first | (simp; done) | (simp_all; done))); (focus (simp; done)); (focus (refine Eq.trans ?_ h2; clear h2; first | (simp [*]; done) | (simp_all; done) | (split <;> simp_all <;> omega) | (split <;> first | (exfalso; omega) | (simp_all; done)))); (focus (simp; done))) | (simp_all [pf404]; done) | (simp_all [pf404]; omega) | (split at h2 <;> first | (exfalso; omega) | (simp_all [pf404]; done))

@[simp] theorem t404 (k0 k1 : Bool) (l m : List XVal) (h : l.length ≤ 1048576) (h1 : m.length ≤ 1048576)  : Gw TT 404 [.one (.ro k0 (.sl 3 (l.map XVal.e))), .one (.ro k1 (.sl 3 (m.map XVal.e)))] = some (vb (sameValsF l m), []) := by
  by_cases hl : l.length = m.length
  · obtain ⟨z, rfl, rfl⟩ := zip_ex l m hl
    have := t404z k0 k1 z (by simpa using h) 
    simp only [sameValsF, hl, if_true, zip_map, List.map_map]
    exact this
  · refine Gw_of (F := pf404) rfl rfl ?_
    show Wp _ pb404 _ _
    unfold pb404
    repeat' (first
      | with_reducible (first | refine wp_seq ?_ | refine wp_blk ?_ | refine wp_skip ?_ | refine wp_exit ?_ | refine wp_ret ?_ | refine seqQ_norm ?_ | refine seqQ_ret ?_ | refine seqQ_exit ?_ | refine blkQ_norm ?_ | refine blkQ_ret ?_ | refine blkQ_exit ?_ | refine loopQ_norm ?_ | refine loopQ_exit ?_ | refine loopQ_ret ?_ | refine endQ_ret ?_ | refine endQ_norm ?_ | refine endE_ret ?_ | refine endE_norm ?_ | refine endI_ret ?_ | refine endI_norm ?_)
      | (with_reducible refine wp_regK fun K hK => ?_
         simp
         repeat' (with_reducible first | refine hK _ ?_ | (refine psel ?_ ?_ <;> (intro hc; (try rw [Decidable.not_not] at hc); first | (exfalso; omega) | (try simp [hc]))))
         all_goals (clear hK; clear K))
      | (with_reducible refine wp_condE ?_
         refine ⟨_, rfl, ?_, ?_⟩ <;> (intro hc; (try simp at hc); (all_goals first | (exfalso; omega) | skip))))
    all_goals first | (simp_all [pf404, sameValsF]; done) | (exfalso; omega)

@[simp] theorem t52 (k0 k1 : Bool) (l m : List XVal) (h : l.length ≤ 1048576) (h1 : m.length ≤ 1048576) : Gw TT 52 [.one (.ro k0 (.sl 3 (l.map XVal.e))), .one (.ro k1 (.sl 3 (m.map XVal.e)))] = some (vb (sameValsF l m), []) := by
  refine Gw_of (F := pf52) rfl rfl ?_
  show Wp _ pb52 _ _
  unfold pb52
  repeat' (first
    | with_reducible (first | refine wp_seq ?_ | refine wp_blk ?_ | refine wp_skip ?_ | refine wp_exit ?_ | refine wp_ret ?_ | refine seqQ_norm ?_ | refine seqQ_ret ?_ | refine seqQ_exit ?_ | refine blkQ_norm ?_ | refine blkQ_ret ?_ | refine blkQ_exit ?_ | refine loopQ_norm ?_ | refine loopQ_exit ?_ | refine loopQ_ret ?_ | refine endQ_ret ?_ | refine endQ_norm ?_ | refine endE_ret ?_ | refine endE_norm ?_ | refine endI_ret ?_ | refine endI_norm ?_)
    | (with_reducible refine wp_regK fun K hK => ?_
       simp[h, h1]
       repeat' (with_reducible first | refine hK _ ?_ | (refine psel ?_ ?_ <;> (intro hc; (try rw [Decidable.not_not] at hc); first | (exfalso; omega) | (try simp [hc, h, h1]))))
       all_goals (clear hK; clear K))
    | (with_reducible refine wp_condE ?_
       refine ⟨_, rfl, ?_, ?_⟩ <;> (intro hc; (try simp at hc); (all_goals first | (exfalso; omega) | skip))))
  all_goals first | (simp_all [pf52]; done) | (simp_all [pf52]; omega)

theorem t84z (k0 k1 : Bool) (z : List (Int × Int)) (h : z.length ≤ 1048576)  : Gw TT 84 [.one (.ro k0 (.sl 1 (z.map (ei ∘ Prod.fst)))), .one (.ro k1 (.sl 1 (z.map (ei ∘ Prod.snd))))] = some (vb (intsZ z), []) := by
  refine Gw_of (F := pf84) rfl rfl ?_
  show Wp _ pb84 _ _
  unfold pb84
  repeat' (first
    | with_reducible (first | refine wp_seq ?_ | refine wp_blk ?_ | refine wp_skip ?_ | refine wp_exit ?_ | refine wp_ret ?_ | refine seqQ_norm ?_ | refine seqQ_ret ?_ | refine seqQ_exit ?_ | refine blkQ_norm ?_ | refine blkQ_ret ?_ | refine blkQ_exit ?_ | refine loopQ_norm ?_ | refine loopQ_exit ?_ | refine loopQ_ret ?_ | refine endQ_ret ?_ | refine endQ_norm ?_ | refine endE_ret ?_ | refine endE_norm ?_ | refine endI_ret ?_ | refine endI_norm ?_)
    | (with_reducible refine wp_regK fun K hK => ?_
       simp
       repeat' (with_reducible first | refine hK _ ?_ | (refine psel ?_ ?_ <;> (intro hc; (try rw [Decidable.not_not] at hc); first | (exfalso; omega) | (try simp [hc]))))
       all_goals (clear hK; clear K))
    | (with_reducible refine wp_condE ?_
       refine ⟨_, rfl, ?_, ?_⟩ <;> (intro hc; (try simp at hc); (all_goals first | (exfalso; omega) | skip))))
  refine wp_loopI (σ := List (Int × Int) × List (Int × Int)) (fun s => [(0, AV.v k0 (D.sl 1 (z.map (ei ∘ Prod.fst))), none), (1, AV.v k1 (D.sl 1 (z.map (ei ∘ Prod.snd))), none), (12, AV.v false (di (z.length : Nat)), none), (13, AV.v false (di ((s.1.length : Nat) : Int)), none)]) (fun s => z = s.1 ++ s.2 ∧ intsZ s.2 = intsZ z) (fun s => s.2.length) ([], z) (by simp) ⟨rfl, rfl⟩ ?_
  rintro ⟨pre, rest⟩ ⟨h1, h2⟩
  simp only at h1 h2
  subst h1
  simp only [List.length_append, List.length_cons] at h
  rcases rest with _ | ⟨d, rest⟩
  · unfold pl84_0
    simp only [intsZ, intEq, Bool.and_eq_true, beq_iff_eq] at h2
    repeat' (first
      | with_reducible (first | refine wp_seq ?_ | refine wp_blk ?_ | refine wp_skip ?_ | refine wp_exit ?_ | refine wp_ret ?_ | refine seqQ_norm ?_ | refine seqQ_ret ?_ | refine seqQ_exit ?_ | refine blkQ_norm ?_ | refine blkQ_ret ?_ | refine blkQ_exit ?_ | refine loopQ_norm ?_ | refine loopQ_exit ?_ | refine loopQ_ret ?_ | refine endQ_ret ?_ | refine endQ_norm ?_ | refine endE_ret ?_ | refine endE_norm ?_ | refine endI_ret ?_ | refine endI_norm ?_)
      | (with_reducible refine wp_regK fun K hK => ?_
         simp
         repeat' (with_reducible first | refine hK _ ?_ | (refine psel ?_ ?_ <;> (intro hc; (try rw [Decidable.not_not] at hc); first | (exfalso; omega) | (try simp [hc]))))
         all_goals (clear hK; clear K))
      | (with_reducible refine wp_condE ?_
         refine ⟨_, rfl, ?_, ?_⟩ <;> (intro hc; (try simp at hc); (all_goals first | (exfalso; omega) | skip))))
    all_goals first | (simp_all [pf84]; done) | (simp_all [pf84]; omega)
  · unfold pl84_0
    simp only [List.length_cons] at h
    simp only [intsZ, intEq, Bool.and_eq_true, beq_iff_eq] at h2
    have hw : IntKind.wrap .i64 ((pre.length : Int) + 1) = (pre.length : Int) + 1 := wrap_i64 (by omega) (by omega)
    repeat' (first
      | with_reducible (first | refine wp_seq ?_ | refine wp_blk ?_ | refine wp_skip ?_ | refine wp_exit ?_ | refine wp_ret ?_ | refine seqQ_norm ?_ | refine seqQ_ret ?_ | refine seqQ_exit ?_ | refine blkQ_norm ?_ | refine blkQ_ret ?_ | refine blkQ_exit ?_ | refine loopQ_norm ?_ | refine loopQ_exit ?_ | refine loopQ_ret ?_ | refine endQ_ret ?_ | refine endQ_norm ?_ | refine endE_ret ?_ | refine endE_norm ?_ | refine endI_ret ?_ | refine endI_norm ?_)
      | (with_reducible refine wp_regK fun K hK => ?_
         simp[hw]
         repeat' (with_reducible first | refine hK _ ?_ | (refine psel ?_ ?_ <;> (intro hc; (try rw [Decidable.not_not] at hc); first | (exfalso; omega) | (try simp [hc, hw]))))
         all_goals (clear hK; clear K))
      | (with_reducible refine wp_condE ?_
         refine ⟨_, rfl, ?_, ?_⟩ <;> (intro hc; (try simp at hc); (all_goals first | (exfalso; omega) | skip))))
    all_goals first | (refine ⟨(pre ++ [d], rest), ?_, ⟨?_, ?_⟩, ?_⟩; (focus (first | (simp; done) | (simp_all; done))); (focus (simp; done)); (focus (refine Eq.trans ?_ h2; clear h2; first | (simp [*]; done) | (simp_all; done) | (split <;> simp_all <;> omega) | (split <;> first | (exfalso; omega) | (simp_all; done)))); (focus (simp; done))) | (simp_all [pf84]; done) | (simp_all [pf84]; omega) | (split at h2 <;> first | (exfalso; omega) | (simp_all [pf84]; done))

@[simp] theorem t84 (k0 k1 : Bool) (l m : List Int) (h : l.length ≤ 1048576) (h1 : m.length ≤ 1048576)  : Gw TT 84 [.one (.ro k0 (.sl 1 (l.map ei))), .one (.ro k1 (.sl 1 (m.map ei)))] = some (vb (sameIntsF l m), []) := by
  by_cases hl : l.length = m.length
  · obtain ⟨z, rfl, rfl⟩ := zip_ex l m hl
    have := t84z k0 k1 z (by simpa using h) 
    simp only [sameIntsF, hl, if_true, zip_map, List.map_map]
    exact this
  · refine Gw_of (F := pf84) rfl rfl ?_
    show Wp _ pb84 _ _
    unfold pb84
    repeat' (first
      | with_reducible (first | refine wp_seq ?_ | refine wp_blk ?_ | refine wp_skip ?_ | refine wp_exit ?_ | refine wp_ret ?_ | refine seqQ_norm ?_ | refine seqQ_ret ?_ | refine seqQ_exit ?_ | refine blkQ_norm ?_ | refine blkQ_ret ?_ | refine blkQ_exit ?_ | refine loopQ_norm ?_ | refine loopQ_exit ?_ | refine loopQ_ret ?_ | refine endQ_ret ?_ | refine endQ_norm ?_ | refine endE_ret ?_ | refine endE_norm ?_ | refine endI_ret ?_ | refine endI_norm ?_)
      | (with_reducible refine wp_regK fun K hK => ?_
         simp
         repeat' (with_reducible first | refine hK _ ?_ | (refine psel ?_ ?_ <;> (intro hc; (try rw [Decidable.not_not] at hc); first | (exfalso; omega) | (try simp [hc]))))
         all_goals (clear hK; clear K))
      | (with_reducible refine wp_condE ?_
         refine ⟨_, rfl, ?_, ?_⟩ <;> (intro hc; (try simp at hc); (all_goals first | (exfalso; omega) | skip))))
    all_goals first | (simp_all [pf84, sameIntsF]; done) | (exfalso; omega)

def rowEq (a b : XRow) : Bool := a.Id == b.Id && sameValsF a.L b.L

def rowsZ : List (XRow × XRow) → Bool
  | [] => true
  | d :: z => if rowEq d.1 d.2 = true then rowsZ z else false
def sameRowsF (l m : List XRow) : Bool := if l.length = m.length then rowsZ (l.zip m) else false

@[simp] theorem t50 (k0 k1 : Bool) (x_Id y_Id : Int) (x_L y_L : List XVal) (h : x_L.length ≤ 1048576) (h1 : y_L.length ≤ 1048576) : Gw TT 50 [.st [.ro false (di x_Id), .ro k0 (.sl 3 (x_L.map XVal.e))], .st [.ro false (di y_Id), .ro k1 (.sl 3 (y_L.map XVal.e))]] = some (vb (x_Id == y_Id && sameValsF x_L y_L), []) := by
  refine Gw_of (F := pf50) rfl rfl ?_
  show Wp _ pb50 _ _
  unfold pb50
  repeat' (first
    | with_reducible (first | refine wp_seq ?_ | refine wp_blk ?_ | refine wp_skip ?_ | refine wp_exit ?_ | refine wp_ret ?_ | refine seqQ_norm ?_ | refine seqQ_ret ?_ | refine seqQ_exit ?_ | refine blkQ_norm ?_ | refine blkQ_ret ?_ | refine blkQ_exit ?_ | refine loopQ_norm ?_ | refine loopQ_exit ?_ | refine loopQ_ret ?_ | refine endQ_ret ?_ | refine endQ_norm ?_ | refine endE_ret ?_ | refine endE_norm ?_ | refine endI_ret ?_ | refine endI_norm ?_)
    | (with_reducible refine wp_regK fun K hK => ?_
       simp[h, h1]
       repeat' (with_reducible first | refine hK _ ?_ | (refine psel ?_ ?_ <;> (intro hc; (try rw [Decidable.not_not] at hc); first | (exfalso; omega) | (try simp [hc, h, h1]))))
       all_goals (clear hK; clear K))
    | (with_reducible refine wp_condE ?_
       refine ⟨_, rfl, ?_, ?_⟩ <;> (intro hc; (try simp at hc); (all_goals first | (exfalso; omega) | skip))))
  all_goals first | (simp_all [pf50]; done) | (simp_all [pf50]; omega)

theorem t51z (k0 k1 : Bool) (z : List (XRow × XRow)) (h : z.length ≤ 1048576) (hs : XRow.sms (z.map Prod.fst)) (hs1 : XRow.sms (z.map Prod.snd)) : Gw TT 51 [.one (.ro k0 (.sl 2 (z.map (XRow.e ∘ Prod.fst)))), .one (.ro k1 (.sl 2 (z.map (XRow.e ∘ Prod.snd))))] = some (vb (rowsZ z), []) := by
  refine Gw_of (F := pf51) rfl rfl ?_
  show Wp _ pb51 _ _
  unfold pb51
  repeat' (first
    | with_reducible (first | refine wp_seq ?_ | refine wp_blk ?_ | refine wp_skip ?_ | refine wp_exit ?_ | refine wp_ret ?_ | refine seqQ_norm ?_ | refine seqQ_ret ?_ | refine seqQ_exit ?_ | refine blkQ_norm ?_ | refine blkQ_ret ?_ | refine blkQ_exit ?_ | refine loopQ_norm ?_ | refine loopQ_exit ?_ | refine loopQ_ret ?_ | refine endQ_ret ?_ | refine endQ_norm ?_ | refine endE_ret ?_ | refine endE_norm ?_ | refine endI_ret ?_ | refine endI_norm ?_)
    | (with_reducible refine wp_regK fun K hK => ?_
       simp
       repeat' (with_reducible first | refine hK _ ?_ | (refine psel ?_ ?_ <;> (intro hc; (try rw [Decidable.not_not] at hc); first | (exfalso; omega) | (try simp [hc]))))
       all_goals (clear hK; clear K))
    | (with_reducible refine wp_condE ?_
       refine ⟨_, rfl, ?_, ?_⟩ <;> (intro hc; (try simp at hc); (all_goals first | (exfalso; omega) | skip))))
  refine wp_loopI (σ := List (XRow × XRow) × List (XRow × XRow)) (fun s => [(0, AV.v k0 (D.sl 2 (z.map (XRow.e ∘ Prod.fst))), none), (1, AV.v k1 (D.sl 2 (z.map (XRow.e ∘ Prod.snd))), none), (12, AV.v false (di (z.length : Nat)), none), (13, AV.v false (di ((s.1.length : Nat) : Int)), none)]) (fun s => z = s.1 ++ s.2 ∧ rowsZ s.2 = rowsZ z) (fun s => s.2.length) ([], z) (by simp) ⟨rfl, rfl⟩ ?_
  rintro ⟨pre, rest⟩ ⟨h1, h2⟩
  simp only at h1 h2
  subst h1
  simp only [List.length_append, List.length_cons] at h
  rcases rest with _ | ⟨d, rest⟩
  · unfold pl51_0
    simp only [rowsZ, rowEq, Bool.and_eq_true, beq_iff_eq] at h2
    repeat' (first
      | with_reducible (first | refine wp_seq ?_ | refine wp_blk ?_ | refine wp_skip ?_ | refine wp_exit ?_ | refine wp_ret ?_ | refine seqQ_norm ?_ | refine seqQ_ret ?_ | refine seqQ_exit ?_ | refine blkQ_norm ?_ | refine blkQ_ret ?_ | refine blkQ_exit ?_ | refine loopQ_norm ?_ | refine loopQ_exit ?_ | refine loopQ_ret ?_ | refine endQ_ret ?_ | refine endQ_norm ?_ | refine endE_ret ?_ | refine endE_norm ?_ | refine endI_ret ?_ | refine endI_norm ?_)
      | (with_reducible refine wp_regK fun K hK => ?_
         simp
         repeat' (with_reducible first | refine hK _ ?_ | (refine psel ?_ ?_ <;> (intro hc; (try rw [Decidable.not_not] at hc); first | (exfalso; omega) | (try simp [hc]))))
         all_goals (clear hK; clear K))
      | (with_reducible refine wp_condE ?_
         refine ⟨_, rfl, ?_, ?_⟩ <;> (intro hc; (try simp at hc); (all_goals first | (exfalso; omega) | skip))))
    all_goals first | (simp_all [pf51]; done) | (simp_all [pf51]; omega)
  · unfold pl51_0
    simp only [List.length_cons] at h
    simp only [rowsZ, rowEq, Bool.and_eq_true, beq_iff_eq] at h2
    have hw : IntKind.wrap .i64 ((pre.length : Int) + 1) = (pre.length : Int) + 1 := wrap_i64 (by omega) (by omega)
    have hd1 := hs d.1 (by simp)
    have hd2 := hs1 d.2 (by simp)
    simp only [XRow.sm] at hd1 hd2
    obtain ⟨ha1, ha2⟩ := hd1
    obtain ⟨hb1, hb2⟩ := hd2
    repeat' (first
      | with_reducible (first | refine wp_seq ?_ | refine wp_blk ?_ | refine wp_skip ?_ | refine wp_exit ?_ | refine wp_ret ?_ | refine seqQ_norm ?_ | refine seqQ_ret ?_ | refine seqQ_exit ?_ | refine blkQ_norm ?_ | refine blkQ_ret ?_ | refine blkQ_exit ?_ | refine loopQ_norm ?_ | refine loopQ_exit ?_ | refine loopQ_ret ?_ | refine endQ_ret ?_ | refine endQ_norm ?_ | refine endE_ret ?_ | refine endE_norm ?_ | refine endI_ret ?_ | refine endI_norm ?_)
      | (with_reducible refine wp_regK fun K hK => ?_
         simp[hw, ha1, hb1]
         repeat' (with_reducible first | refine hK _ ?_ | (refine psel ?_ ?_ <;> (intro hc; (try rw [Decidable.not_not] at hc); first | (exfalso; omega) | (try simp [hc, hw, ha1, hb1]))))
         all_goals (clear hK; clear K))
      | (with_reducible refine wp_condE ?_
         refine ⟨_, rfl, ?_, ?_⟩ <;> (intro hc; (try simp at hc); (all_goals first | (exfalso; omega) | skip))))
    all_goals first | (refine ⟨(pre ++ [d], rest), ?_, ⟨?_, ?_⟩, ?_⟩; (focus (first | (simp; done) | (simp_all; done))); (focus (simp; done)); (focus (refine Eq.trans ?_ h2; clear h2; first | (simp [*]; done) | (simp_all; done) | (split <;> simp_all <;> omega) | (split <;> first | (exfalso; omega) | (simp_all; done)))); (focus (simp; done))) | (simp_all [pf51]; done) | (simp_all [pf51]; omega) | (split at h2 <;> first | (exfalso; omega) | (simp_all [pf51]; done))

@[simp] theorem t51 (k0 k1 : Bool) (l m : List XRow) (h : l.length ≤ 1048576) (h1 : m.length ≤ 1048576) (hs : XRow.sms l) (hs1 : XRow.sms m) : Gw TT 51 [.one (.ro k0 (.sl 2 (l.map XRow.e))), .one (.ro k1 (.sl 2 (m.map XRow.e)))] = some (vb (sameRowsF l m), []) := by
  by_cases hl : l.length = m.length
  · obtain ⟨z, rfl, rfl⟩ := zip_ex l m hl
    have := t51z k0 k1 z (by simpa using h) hs hs1
    simp only [sameRowsF, hl, if_true, zip_map, List.map_map]
    exact this
  · refine Gw_of (F := pf51) rfl rfl ?_
    show Wp _ pb51 _ _
    unfold pb51
    repeat' (first
      | with_reducible (first | refine wp_seq ?_ | refine wp_blk ?_ | refine wp_skip ?_ | refine wp_exit ?_ | refine wp_ret ?_ | refine seqQ_norm ?_ | refine seqQ_ret ?_ | refine seqQ_exit ?_ | refine blkQ_norm ?_ | refine blkQ_ret ?_ | refine blkQ_exit ?_ | refine loopQ_norm ?_ | refine loopQ_exit ?_ | refine loopQ_ret ?_ | refine endQ_ret ?_ | refine endQ_norm ?_ | refine endE_ret ?_ | refine endE_norm ?_ | refine endI_ret ?_ | refine endI_norm ?_)
      | (with_reducible refine wp_regK fun K hK => ?_
         simp
         repeat' (with_reducible first | refine hK _ ?_ | (refine psel ?_ ?_ <;> (intro hc; (try rw [Decidable.not_not] at hc); first | (exfalso; omega) | (try simp [hc]))))
         all_goals (clear hK; clear K))
      | (with_reducible refine wp_condE ?_
         refine ⟨_, rfl, ?_, ?_⟩ <;> (intro hc; (try simp at hc); (all_goals first | (exfalso; omega) | skip))))
    all_goals first | (simp_all [pf51, sameRowsF]; done) | (exfalso; omega)

mutual
def predEq : XPred → XPred → Bool
  | ⟨k, c, o, v, l⟩, ⟨k', c', o', v', l'⟩ => k == k' && (c == c' && (o == o' && (valEq v v' && predsEq l l')))
def predsEq : List XPred → List XPred → Bool
  | [], [] => true
  | x :: l, y :: m => predEq x y && predsEq l m
  | _, _ => false
end

theorem predsEq_len : ∀ (l m : List XPred), l.length ≠ m.length → predsEq l m = false
  | [], [], h => absurd rfl h
  | [], _ :: _, _ => by simp [predsEq]
  | _ :: _, [], _ => by simp [predsEq]
  | x :: l, y :: m, h => by simp [predsEq, predsEq_len l m (by simpa using h)]

def SamePredA (x y : XPred) : Prop := ∀ k0 k1 : Bool, x.sm → y.sm → Gw TT 85 [.st [.ro false (di x.Kind), .ro false (di x.Col), .ro false (di x.Op), .ro false (di x.V.Ty), .ro false (di x.V.N), .ro false (.str x.V.S), .ro k0 (.sl 7 (x.L.map XPred.e))], .st [.ro false (di y.Kind), .ro false (di y.Col), .ro false (di y.Op), .ro false (di y.V.Ty), .ro false (di y.V.N), .ro false (.str y.V.S), .ro k1 (.sl 7 (y.L.map XPred.e))]] = some (vb (predEq x y), [])

theorem SamePredA_of (x y : XPred) (IH : ∀ a ∈ x.L, ∀ b ∈ y.L, SamePredA a b) : SamePredA x y := by
  intro k0 k1 hx hy
  obtain ⟨x_Kind, x_Col, x_Op, ⟨x_V_Ty, x_V_N, x_V_S⟩, x_L⟩ := x
  obtain ⟨y_Kind, y_Col, y_Op, ⟨y_V_Ty, y_V_N, y_V_S⟩, y_L⟩ := y
  simp only [XPred.sm_eq, XVal.sm, and_assoc] at hx hy
  obtain ⟨_, hxl, hxs⟩ := hx
  obtain ⟨_, hyl, hys⟩ := hy
  refine Gw_of (F := pf85) rfl rfl ?_
  show Wp _ pb85 _ _
  unfold pb85
  by_cases hh : x_Kind = y_Kind ∧ x_Col = y_Col ∧ x_Op = y_Op ∧ x_V_Ty = y_V_Ty ∧ x_V_N = y_V_N ∧ x_V_S.toList = y_V_S.toList ∧ x_L.length = y_L.length
  · obtain ⟨rfl, rfl, rfl, rfl, rfl, hs, hl⟩ := hh
    obtain ⟨z, rfl, rfl⟩ := zip_ex x_L y_L hl
    simp only at IH
    simp only [List.length_map] at hxl hl
    clear hyl hl
    repeat' (first
      | with_reducible (first | refine wp_seq ?_ | refine wp_blk ?_ | refine wp_skip ?_ | refine wp_exit ?_ | refine wp_ret ?_ | refine seqQ_norm ?_ | refine seqQ_ret ?_ | refine seqQ_exit ?_ | refine blkQ_norm ?_ | refine blkQ_ret ?_ | refine blkQ_exit ?_ | refine loopQ_norm ?_ | refine loopQ_exit ?_ | refine loopQ_ret ?_ | refine endQ_ret ?_ | refine endQ_norm ?_ | refine endE_ret ?_ | refine endE_norm ?_ | refine endI_ret ?_ | refine endI_norm ?_)
      | (with_reducible refine wp_regK fun K hK => ?_
         simp[hs]
         repeat' (with_reducible first | refine hK _ ?_ | (refine psel ?_ ?_ <;> (intro hc; (try rw [Decidable.not_not] at hc); first | (exfalso; omega) | (try simp [hc, hs]))))
         all_goals (clear hK; clear K))
      | (with_reducible refine wp_condE ?_
         refine ⟨_, rfl, ?_, ?_⟩ <;> (intro hc; (try simp at hc); (all_goals first | (exfalso; omega) | skip))))
    refine wp_loopI (σ := List (XPred × XPred) × List (XPred × XPred)) (fun s => [(2, AV.bx 2 0, some (Rt.bx [.ro false (di x_Kind), .ro false (di x_Col), .ro false (di x_Op), .ro false (di x_V_Ty), .ro false (di x_V_N), .ro false (.str x_V_S), .ro k0 (.sl 7 (z.map (XPred.e ∘ Prod.fst)))])), (3, AV.bx 3 0, some (Rt.bx [.ro false (di x_Kind), .ro false (di x_Col), .ro false (di x_Op), .ro false (di x_V_Ty), .ro false (di x_V_N), .ro false (.str y_V_S), .ro k1 (.sl 7 (z.map (XPred.e ∘ Prod.snd)))])), (43, AV.v false (di (z.length : Nat)), none), (44, AV.v false (di ((s.1.length : Nat) : Int)), none)]) (fun s => z = s.1 ++ s.2 ∧ predsEq (s.2.map Prod.fst) (s.2.map Prod.snd) = predsEq (z.map Prod.fst) (z.map Prod.snd)) (fun s => s.2.length) ([], z) (by simp) ⟨rfl, rfl⟩ ?_
    rintro ⟨pre, rest⟩ ⟨h1, h2⟩
    simp only at h1 h2
    subst h1
    simp only [List.length_append, List.length_cons] at hxl
    rcases rest with _ | ⟨d, rest⟩
    · unfold pl85_0
      simp only [predsEq, List.map_nil] at h2
      repeat' (first
        | with_reducible (first | refine wp_seq ?_ | refine wp_blk ?_ | refine wp_skip ?_ | refine wp_exit ?_ | refine wp_ret ?_ | refine seqQ_norm ?_ | refine seqQ_ret ?_ | refine seqQ_exit ?_ | refine blkQ_norm ?_ | refine blkQ_ret ?_ | refine blkQ_exit ?_ | refine loopQ_norm ?_ | refine loopQ_exit ?_ | refine loopQ_ret ?_ | refine endQ_ret ?_ | refine endQ_norm ?_ | refine endE_ret ?_ | refine endE_norm ?_ | refine endI_ret ?_ | refine endI_norm ?_)
        | (with_reducible refine wp_regK fun K hK => ?_
           simp
           repeat' (with_reducible first | refine hK _ ?_ | (refine psel ?_ ?_ <;> (intro hc; (try rw [Decidable.not_not] at hc); first | (exfalso; omega) | (try simp [hc]))))
           all_goals (clear hK; clear K))
        | (with_reducible refine wp_condE ?_
           refine ⟨_, rfl, ?_, ?_⟩ <;> (intro hc; (try simp at hc); (all_goals first | (exfalso; omega) | skip))))
      all_goals simp_all [pf85, predEq, valEq]
    · unfold pl85_0
      simp only [List.length_cons] at hxl
      simp only [predsEq, List.map_cons] at h2
      have hw : IntKind.wrap .i64 ((pre.length : Int) + 1) = (pre.length : Int) + 1 := wrap_i64 (by omega) (by omega)
      have ih := IH d.1 (by simp) d.2 (by simp) k0 k1 (XPred.sms_mem hxs d.1 (by simp)) (XPred.sms_mem hys d.2 (by simp))
      repeat' (first
        | with_reducible (first | refine wp_seq ?_ | refine wp_blk ?_ | refine wp_skip ?_ | refine wp_exit ?_ | refine wp_ret ?_ | refine seqQ_norm ?_ | refine seqQ_ret ?_ | refine seqQ_exit ?_ | refine blkQ_norm ?_ | refine blkQ_ret ?_ | refine blkQ_exit ?_ | refine loopQ_norm ?_ | refine loopQ_exit ?_ | refine loopQ_ret ?_ | refine endQ_ret ?_ | refine endQ_norm ?_ | refine endE_ret ?_ | refine endE_norm ?_ | refine endI_ret ?_ | refine endI_norm ?_)
        | (with_reducible refine wp_regK fun K hK => ?_
           simp[hw, ih]
           repeat' (with_reducible first | refine hK _ ?_ | (refine psel ?_ ?_ <;> (intro hc; (try rw [Decidable.not_not] at hc); first | (exfalso; omega) | (try simp [hc, hw, ih]))))
           all_goals (clear hK; clear K))
        | (with_reducible refine wp_condE ?_
           refine ⟨_, rfl, ?_, ?_⟩ <;> (intro hc; (try simp at hc); (all_goals first | (exfalso; omega) | skip))))
      all_goals first | (refine ⟨(pre ++ [d], rest), ?_, ⟨?_, ?_⟩, ?_⟩; (focus (first | (simp; done) | (simp_all; done))); (focus (simp; done)); (focus (refine Eq.trans ?_ h2; clear h2; simp_all; done)); (focus (simp; done))) | (simp_all [pf85, predEq, valEq]; done)
  · have hf : predEq ⟨x_Kind, x_Col, x_Op, ⟨x_V_Ty, x_V_N, x_V_S⟩, x_L⟩ ⟨y_Kind, y_Col, y_Op, ⟨y_V_Ty, y_V_N, y_V_S⟩, y_L⟩ = false := by
      by_cases hl : x_L.length = y_L.length
      · simp only [predEq, valEq]
        rw [Bool.eq_false_iff]
        intro hq
        simp only [Bool.and_eq_true, beq_iff_eq] at hq
        exact hh ⟨hq.1, hq.2.1, hq.2.2.1, hq.2.2.2.1.1, hq.2.2.2.1.2.1, hq.2.2.2.1.2.2, hl⟩
      · simp [predEq, predsEq_len _ _ hl]
    repeat' (first
      | with_reducible (first | refine wp_seq ?_ | refine wp_blk ?_ | refine wp_skip ?_ | refine wp_exit ?_ | refine wp_ret ?_ | refine seqQ_norm ?_ | refine seqQ_ret ?_ | refine seqQ_exit ?_ | refine blkQ_norm ?_ | refine blkQ_ret ?_ | refine blkQ_exit ?_ | refine loopQ_norm ?_ | refine loopQ_exit ?_ | refine loopQ_ret ?_ | refine endQ_ret ?_ | refine endQ_norm ?_ | refine endE_ret ?_ | refine endE_norm ?_ | refine endI_ret ?_ | refine endI_norm ?_)
      | (with_reducible refine wp_regK fun K hK => ?_
         simp
         repeat' (with_reducible first | refine hK _ ?_ | (refine psel ?_ ?_ <;> (intro hc; (try rw [Decidable.not_not] at hc); first | (exfalso; omega) | (try simp [hc]))))
         all_goals (clear hK; clear K))
      | (with_reducible refine wp_condE ?_
         refine ⟨_, rfl, ?_, ?_⟩ <;> (intro hc; (try simp at hc); (all_goals first | (exfalso; omega) | skip))))
    all_goals first | (simp [pf85, hf]; done) | (exfalso; have q : ¬(¬x_V_Ty = y_V_Ty ∨ ¬x_V_N = y_V_N ∨ ¬x_V_S.toList = y_V_S.toList) := (by assumption); exact hh ⟨by assumption, by assumption, by assumption, Classical.byContradiction fun e => q (.inl e), Classical.byContradiction fun e => q (.inr (.inl e)), Classical.byContradiction fun e => q (.inr (.inr e)), by omega⟩)

theorem SamePredA_all (x y : XPred) : SamePredA x y :=
  SamePredA_of x y fun a ha b _ => SamePredA_all a b
termination_by SizeOf.sizeOf x
decreasing_by
  have h1 := List.sizeOf_lt_of_mem ha
  have h2 : SizeOf.sizeOf x.L < SizeOf.sizeOf x := by cases x; simp; omega
  omega

@[simp] theorem t85 (k0 k1 : Bool) (x_Kind : Int) (x_Col : Int) (x_Op : Int) (x_V_Ty : Int) (x_V_N : Int) (x_V_S : ByteArray) (x_L : List XPred) (y_Kind : Int) (y_Col : Int) (y_Op : Int) (y_V_Ty : Int) (y_V_N : Int) (y_V_S : ByteArray) (y_L : List XPred) (hv : x_V_S.size ≤ 1048576) (hxl : x_L.length ≤ 1048576) (hxs : XPred.sms x_L) (hw : y_V_S.size ≤ 1048576) (hyl : y_L.length ≤ 1048576) (hys : XPred.sms y_L) :
    Gw TT 85 [.st [.ro false (di x_Kind), .ro false (di x_Col), .ro false (di x_Op), .ro false (di x_V_Ty), .ro false (di x_V_N), .ro false (.str x_V_S), .ro k0 (.sl 7 (x_L.map XPred.e))], .st [.ro false (di y_Kind), .ro false (di y_Col), .ro false (di y_Op), .ro false (di y_V_Ty), .ro false (di y_V_N), .ro false (.str y_V_S), .ro k1 (.sl 7 (y_L.map XPred.e))]] = some (vb (predEq ⟨x_Kind, x_Col, x_Op, ⟨x_V_Ty, x_V_N, x_V_S⟩, x_L⟩ ⟨y_Kind, y_Col, y_Op, ⟨y_V_Ty, y_V_N, y_V_S⟩, y_L⟩), []) :=
  SamePredA_all ⟨x_Kind, x_Col, x_Op, ⟨x_V_Ty, x_V_N, x_V_S⟩, x_L⟩ ⟨y_Kind, y_Col, y_Op, ⟨y_V_Ty, y_V_N, y_V_S⟩, y_L⟩ k0 k1 (by simp only [XPred.sm_eq, XVal.sm]; exact ⟨hv, hxl, hxs⟩) (by simp only [XPred.sm_eq, XVal.sm]; exact ⟨hw, hyl, hys⟩)

def queryEq (a b : XQuery) : Bool := a.Kind == b.Kind && predEq a.P b.P && a.Col == b.Col && sameIntsF a.Out b.Out
def resultEq (a b : XResult) : Bool := sameRowsF a.Rows b.Rows && a.N == b.N && a.Has == b.Has && valEq a.V b.V
def deedEq (a b : XDeed) : Bool := a.Op == b.Op && a.Task == b.Task && sameValsF a.R b.R && a.Id == b.Id && queryEq a.Q b.Q && resultEq a.Res b.Res && a.Code == b.Code && a.Stamp == b.Stamp && a.Inv == b.Inv && a.Lin == b.Lin && a.Ret == b.Ret

@[simp] theorem t86 (k0 k1 : Bool) (x_Kind : Int) (x_P_Kind : Int) (x_P_Col : Int) (x_P_Op : Int) (x_P_V_Ty : Int) (x_P_V_N : Int) (x_P_V_S : ByteArray) (x_P_L : List XPred) (x_Col : Int) (x_Out : List Int) (y_Kind : Int) (y_P_Kind : Int) (y_P_Col : Int) (y_P_Op : Int) (y_P_V_Ty : Int) (y_P_V_N : Int) (y_P_V_S : ByteArray) (y_P_L : List XPred) (y_Col : Int) (y_Out : List Int) (hsm_x_P_V_S : x_P_V_S.size ≤ 1048576) (hsm_x_P_L : x_P_L.length ≤ 1048576) (hsms_x_P_L : XPred.sms x_P_L) (hsm_x_Out : x_Out.length ≤ 1048576) (hsm_y_P_V_S : y_P_V_S.size ≤ 1048576) (hsm_y_P_L : y_P_L.length ≤ 1048576) (hsms_y_P_L : XPred.sms y_P_L) (hsm_y_Out : y_Out.length ≤ 1048576) : Gw TT 86 [.st [.ro false (di x_Kind), .ro false (di x_P_Kind), .ro false (di x_P_Col), .ro false (di x_P_Op), .ro false (di x_P_V_Ty), .ro false (di x_P_V_N), .ro false (.str x_P_V_S), .ro k0 (.sl 7 (x_P_L.map XPred.e)), .ro false (di x_Col), .ro k0 (.sl 1 (x_Out.map ei))], .st [.ro false (di y_Kind), .ro false (di y_P_Kind), .ro false (di y_P_Col), .ro false (di y_P_Op), .ro false (di y_P_V_Ty), .ro false (di y_P_V_N), .ro false (.str y_P_V_S), .ro k1 (.sl 7 (y_P_L.map XPred.e)), .ro false (di y_Col), .ro k1 (.sl 1 (y_Out.map ei))]] = some (vb (queryEq ⟨x_Kind, ⟨x_P_Kind, x_P_Col, x_P_Op, ⟨x_P_V_Ty, x_P_V_N, x_P_V_S⟩, x_P_L⟩, x_Col, x_Out⟩ ⟨y_Kind, ⟨y_P_Kind, y_P_Col, y_P_Op, ⟨y_P_V_Ty, y_P_V_N, y_P_V_S⟩, y_P_L⟩, y_Col, y_Out⟩), []) := by
  refine Gw_of (F := pf86) rfl rfl ?_
  show Wp _ pb86 _ _
  unfold pb86
  repeat' (first
    | with_reducible (first | refine wp_seq ?_ | refine wp_blk ?_ | refine wp_skip ?_ | refine wp_exit ?_ | refine wp_ret ?_ | refine seqQ_norm ?_ | refine seqQ_ret ?_ | refine seqQ_exit ?_ | refine blkQ_norm ?_ | refine blkQ_ret ?_ | refine blkQ_exit ?_ | refine loopQ_norm ?_ | refine loopQ_exit ?_ | refine loopQ_ret ?_ | refine endQ_ret ?_ | refine endQ_norm ?_ | refine endE_ret ?_ | refine endE_norm ?_ | refine endI_ret ?_ | refine endI_norm ?_)
    | (with_reducible refine wp_regK fun K hK => ?_
       simp[hsm_x_P_V_S, hsm_x_P_L, hsms_x_P_L, hsm_x_Out, hsm_y_P_V_S, hsm_y_P_L, hsms_y_P_L, hsm_y_Out]
       repeat' (with_reducible first | refine hK _ ?_ | (refine psel ?_ ?_ <;> (intro hc; (try rw [Decidable.not_not] at hc); first | (exfalso; omega) | (try simp [hc, hsm_x_P_V_S, hsm_x_P_L, hsms_x_P_L, hsm_x_Out, hsm_y_P_V_S, hsm_y_P_L, hsms_y_P_L, hsm_y_Out]))))
       all_goals (clear hK; clear K))
    | (with_reducible refine wp_condE ?_
       refine ⟨_, rfl, ?_, ?_⟩ <;> (intro hc; (try simp at hc); (all_goals first | (exfalso; omega) | skip))))
  all_goals first | (simp_all [pf86, queryEq]; done) | (simp [pf86, queryEq, *]; done)

@[simp] theorem t49 (k0 k1 : Bool) (x_Rows : List XRow) (x_N : Int) (x_Has : Bool) (x_V_Ty : Int) (x_V_N : Int) (x_V_S : ByteArray) (y_Rows : List XRow) (y_N : Int) (y_Has : Bool) (y_V_Ty : Int) (y_V_N : Int) (y_V_S : ByteArray) (hsm_x_Rows : x_Rows.length ≤ 1048576) (hsms_x_Rows : XRow.sms x_Rows) (hsm_x_V_S : x_V_S.size ≤ 1048576) (hsm_y_Rows : y_Rows.length ≤ 1048576) (hsms_y_Rows : XRow.sms y_Rows) (hsm_y_V_S : y_V_S.size ≤ 1048576) : Gw TT 49 [.st [.ro k0 (.sl 2 (x_Rows.map XRow.e)), .ro false (di x_N), .ro false (.bool x_Has), .ro false (di x_V_Ty), .ro false (di x_V_N), .ro false (.str x_V_S)], .st [.ro k1 (.sl 2 (y_Rows.map XRow.e)), .ro false (di y_N), .ro false (.bool y_Has), .ro false (di y_V_Ty), .ro false (di y_V_N), .ro false (.str y_V_S)]] = some (vb (resultEq ⟨x_Rows, x_N, x_Has, ⟨x_V_Ty, x_V_N, x_V_S⟩⟩ ⟨y_Rows, y_N, y_Has, ⟨y_V_Ty, y_V_N, y_V_S⟩⟩), []) := by
  refine Gw_of (F := pf49) rfl rfl ?_
  show Wp _ pb49 _ _
  unfold pb49
  repeat' (first
    | with_reducible (first | refine wp_seq ?_ | refine wp_blk ?_ | refine wp_skip ?_ | refine wp_exit ?_ | refine wp_ret ?_ | refine seqQ_norm ?_ | refine seqQ_ret ?_ | refine seqQ_exit ?_ | refine blkQ_norm ?_ | refine blkQ_ret ?_ | refine blkQ_exit ?_ | refine loopQ_norm ?_ | refine loopQ_exit ?_ | refine loopQ_ret ?_ | refine endQ_ret ?_ | refine endQ_norm ?_ | refine endE_ret ?_ | refine endE_norm ?_ | refine endI_ret ?_ | refine endI_norm ?_)
    | (with_reducible refine wp_regK fun K hK => ?_
       simp[hsm_x_Rows, hsms_x_Rows, hsm_x_V_S, hsm_y_Rows, hsms_y_Rows, hsm_y_V_S]
       repeat' (with_reducible first | refine hK _ ?_ | (refine psel ?_ ?_ <;> (intro hc; (try rw [Decidable.not_not] at hc); first | (exfalso; omega) | (try simp [hc, hsm_x_Rows, hsms_x_Rows, hsm_x_V_S, hsm_y_Rows, hsms_y_Rows, hsm_y_V_S]))))
       all_goals (clear hK; clear K))
    | (with_reducible refine wp_condE ?_
       refine ⟨_, rfl, ?_, ?_⟩ <;> (intro hc; (try simp at hc); (all_goals first | (exfalso; omega) | skip))))
  all_goals first | (simp_all [pf49, resultEq, valEq]; done) | (simp [pf49, resultEq, valEq, *]; done)

@[simp] theorem t46 (k0 k1 : Bool) (x_Op : Int) (x_Task : Int) (x_R : List XVal) (x_Id : Int) (x_Q_Kind : Int) (x_Q_P_Kind : Int) (x_Q_P_Col : Int) (x_Q_P_Op : Int) (x_Q_P_V_Ty : Int) (x_Q_P_V_N : Int) (x_Q_P_V_S : ByteArray) (x_Q_P_L : List XPred) (x_Q_Col : Int) (x_Q_Out : List Int) (x_Res_Rows : List XRow) (x_Res_N : Int) (x_Res_Has : Bool) (x_Res_V_Ty : Int) (x_Res_V_N : Int) (x_Res_V_S : ByteArray) (x_Code : Int) (x_Stamp : Int) (x_Inv : Int) (x_Lin : Int) (x_Ret : Int) (y_Op : Int) (y_Task : Int) (y_R : List XVal) (y_Id : Int) (y_Q_Kind : Int) (y_Q_P_Kind : Int) (y_Q_P_Col : Int) (y_Q_P_Op : Int) (y_Q_P_V_Ty : Int) (y_Q_P_V_N : Int) (y_Q_P_V_S : ByteArray) (y_Q_P_L : List XPred) (y_Q_Col : Int) (y_Q_Out : List Int) (y_Res_Rows : List XRow) (y_Res_N : Int) (y_Res_Has : Bool) (y_Res_V_Ty : Int) (y_Res_V_N : Int) (y_Res_V_S : ByteArray) (y_Code : Int) (y_Stamp : Int) (y_Inv : Int) (y_Lin : Int) (y_Ret : Int) (hsm_x_R : x_R.length ≤ 1048576) (hsms_x_R : XVal.sms x_R) (hsm_x_Q_P_V_S : x_Q_P_V_S.size ≤ 1048576) (hsm_x_Q_P_L : x_Q_P_L.length ≤ 1048576) (hsms_x_Q_P_L : XPred.sms x_Q_P_L) (hsm_x_Q_Out : x_Q_Out.length ≤ 1048576) (hsm_x_Res_Rows : x_Res_Rows.length ≤ 1048576) (hsms_x_Res_Rows : XRow.sms x_Res_Rows) (hsm_x_Res_V_S : x_Res_V_S.size ≤ 1048576) (hsm_y_R : y_R.length ≤ 1048576) (hsms_y_R : XVal.sms y_R) (hsm_y_Q_P_V_S : y_Q_P_V_S.size ≤ 1048576) (hsm_y_Q_P_L : y_Q_P_L.length ≤ 1048576) (hsms_y_Q_P_L : XPred.sms y_Q_P_L) (hsm_y_Q_Out : y_Q_Out.length ≤ 1048576) (hsm_y_Res_Rows : y_Res_Rows.length ≤ 1048576) (hsms_y_Res_Rows : XRow.sms y_Res_Rows) (hsm_y_Res_V_S : y_Res_V_S.size ≤ 1048576) : Gw TT 46 [.st [.ro false (di x_Op), .ro false (di x_Task), .ro k0 (.sl 3 (x_R.map XVal.e)), .ro false (di x_Id), .ro false (di x_Q_Kind), .ro false (di x_Q_P_Kind), .ro false (di x_Q_P_Col), .ro false (di x_Q_P_Op), .ro false (di x_Q_P_V_Ty), .ro false (di x_Q_P_V_N), .ro false (.str x_Q_P_V_S), .ro k0 (.sl 7 (x_Q_P_L.map XPred.e)), .ro false (di x_Q_Col), .ro k0 (.sl 1 (x_Q_Out.map ei)), .ro k0 (.sl 2 (x_Res_Rows.map XRow.e)), .ro false (di x_Res_N), .ro false (.bool x_Res_Has), .ro false (di x_Res_V_Ty), .ro false (di x_Res_V_N), .ro false (.str x_Res_V_S), .ro false (di x_Code), .ro false (di x_Stamp), .ro false (di x_Inv), .ro false (di x_Lin), .ro false (di x_Ret)], .st [.ro false (di y_Op), .ro false (di y_Task), .ro k1 (.sl 3 (y_R.map XVal.e)), .ro false (di y_Id), .ro false (di y_Q_Kind), .ro false (di y_Q_P_Kind), .ro false (di y_Q_P_Col), .ro false (di y_Q_P_Op), .ro false (di y_Q_P_V_Ty), .ro false (di y_Q_P_V_N), .ro false (.str y_Q_P_V_S), .ro k1 (.sl 7 (y_Q_P_L.map XPred.e)), .ro false (di y_Q_Col), .ro k1 (.sl 1 (y_Q_Out.map ei)), .ro k1 (.sl 2 (y_Res_Rows.map XRow.e)), .ro false (di y_Res_N), .ro false (.bool y_Res_Has), .ro false (di y_Res_V_Ty), .ro false (di y_Res_V_N), .ro false (.str y_Res_V_S), .ro false (di y_Code), .ro false (di y_Stamp), .ro false (di y_Inv), .ro false (di y_Lin), .ro false (di y_Ret)]] = some (vb (deedEq ⟨x_Op, x_Task, x_R, x_Id, ⟨x_Q_Kind, ⟨x_Q_P_Kind, x_Q_P_Col, x_Q_P_Op, ⟨x_Q_P_V_Ty, x_Q_P_V_N, x_Q_P_V_S⟩, x_Q_P_L⟩, x_Q_Col, x_Q_Out⟩, ⟨x_Res_Rows, x_Res_N, x_Res_Has, ⟨x_Res_V_Ty, x_Res_V_N, x_Res_V_S⟩⟩, x_Code, x_Stamp, x_Inv, x_Lin, x_Ret⟩ ⟨y_Op, y_Task, y_R, y_Id, ⟨y_Q_Kind, ⟨y_Q_P_Kind, y_Q_P_Col, y_Q_P_Op, ⟨y_Q_P_V_Ty, y_Q_P_V_N, y_Q_P_V_S⟩, y_Q_P_L⟩, y_Q_Col, y_Q_Out⟩, ⟨y_Res_Rows, y_Res_N, y_Res_Has, ⟨y_Res_V_Ty, y_Res_V_N, y_Res_V_S⟩⟩, y_Code, y_Stamp, y_Inv, y_Lin, y_Ret⟩), []) := by
  refine Gw_of (F := pf46) rfl rfl ?_
  show Wp _ pb46 _ _
  unfold pb46
  repeat' (first
    | with_reducible (first | refine wp_seq ?_ | refine wp_blk ?_ | refine wp_skip ?_ | refine wp_exit ?_ | refine wp_ret ?_ | refine seqQ_norm ?_ | refine seqQ_ret ?_ | refine seqQ_exit ?_ | refine blkQ_norm ?_ | refine blkQ_ret ?_ | refine blkQ_exit ?_ | refine loopQ_norm ?_ | refine loopQ_exit ?_ | refine loopQ_ret ?_ | refine endQ_ret ?_ | refine endQ_norm ?_ | refine endE_ret ?_ | refine endE_norm ?_ | refine endI_ret ?_ | refine endI_norm ?_)
    | (with_reducible refine wp_regK fun K hK => ?_
       simp[hsm_x_R, hsms_x_R, hsm_x_Q_P_V_S, hsm_x_Q_P_L, hsms_x_Q_P_L, hsm_x_Q_Out, hsm_x_Res_Rows, hsms_x_Res_Rows, hsm_x_Res_V_S, hsm_y_R, hsms_y_R, hsm_y_Q_P_V_S, hsm_y_Q_P_L, hsms_y_Q_P_L, hsm_y_Q_Out, hsm_y_Res_Rows, hsms_y_Res_Rows, hsm_y_Res_V_S]
       repeat' (with_reducible first | refine hK _ ?_ | (refine psel ?_ ?_ <;> (intro hc; (try rw [Decidable.not_not] at hc); first | (exfalso; omega) | (try simp [hc, hsm_x_R, hsms_x_R, hsm_x_Q_P_V_S, hsm_x_Q_P_L, hsms_x_Q_P_L, hsm_x_Q_Out, hsm_x_Res_Rows, hsms_x_Res_Rows, hsm_x_Res_V_S, hsm_y_R, hsms_y_R, hsm_y_Q_P_V_S, hsm_y_Q_P_L, hsms_y_Q_P_L, hsm_y_Q_Out, hsm_y_Res_Rows, hsms_y_Res_Rows, hsm_y_Res_V_S]))))
       all_goals (clear hK; clear K))
    | (with_reducible refine wp_condE ?_
       refine ⟨_, rfl, ?_, ?_⟩ <;> (intro hc; (try simp at hc); (all_goals first | (exfalso; omega) | skip))))
  all_goals first | (simp_all [pf46, deedEq]; done) | (simp [pf46, deedEq, *]; done)

@[simp] theorem bytesStr_map (l : List Int) : bytesStr (l.map eb) = some (l.map fun n => UInt8.ofNat n.toNat) := by
  induction l with
  | nil => rfl
  | cons n l ih =>
    have : bytesStr (List.map eb (n :: l)) = match bytesStr (l.map eb) with
      | some bs => some (UInt8.ofNat n.toNat :: bs)
      | none => none := rfl
    rw [this, ih]; rfl

def noQ (kind pk pc po ty n : Int) (s : ByteArray) (l : List XPred) (col : Int) (out : List Int) : Bool :=
  decide (kind = 0 ∧ col = 0 ∧ out.length = 0 ∧ pk = 0 ∧ pc = 0 ∧ po = 0 ∧ ty = 0 ∧ n = 0 ∧ l.length = 0) && (s.toList == (⟨#[]⟩ : ByteArray).toList)

theorem queryEq_zero (kind pk pc po ty n : Int) (s : ByteArray) (l : List XPred) (col : Int) (out : List Int) :
    queryEq ⟨kind, ⟨pk, pc, po, ⟨ty, n, s⟩, l⟩, col, out⟩ ⟨0, ⟨0, 0, 0, ⟨0, 0, ⟨#[]⟩⟩, []⟩, 0, []⟩ = noQ kind pk pc po ty n s l col out := by
  have h1 : predsEq l [] = decide (l.length = 0) := by cases l <;> simp [predsEq]
  have h2 : sameIntsF out [] = decide (out.length = 0) := by cases out <;> simp [sameIntsF, intsZ]
  rw [Bool.eq_iff_iff]
  simp only [queryEq, noQ, predEq, valEq, h1, h2, Bool.and_eq_true, beq_iff_eq, decide_eq_true_eq]
  constructor
  · rintro ⟨⟨⟨a, b, c, d, ⟨e, f, g⟩, i⟩, j⟩, m⟩
    exact ⟨⟨a, j, m, b, c, d, e, f, i⟩, g⟩
  · rintro ⟨⟨a, j, m, b, c, d, e, f, i⟩, g⟩
    exact ⟨⟨⟨a, b, c, d, ⟨e, f, g⟩, i⟩, j⟩, m⟩

@[simp] theorem t86_zero (k0 k1 : Bool) (x_Kind : Int) (x_P_Kind : Int) (x_P_Col : Int) (x_P_Op : Int) (x_P_V_Ty : Int) (x_P_V_N : Int) (x_P_V_S : ByteArray) (x_P_L : List XPred) (x_Col : Int) (x_Out : List Int) (hsm_x_P_V_S : x_P_V_S.size ≤ 1048576) (hsm_x_P_L : x_P_L.length ≤ 1048576) (hsms_x_P_L : XPred.sms x_P_L) (hsm_x_Out : x_Out.length ≤ 1048576) : Gw TT 86 [.st [.ro false (di x_Kind), .ro false (di x_P_Kind), .ro false (di x_P_Col), .ro false (di x_P_Op), .ro false (di x_P_V_Ty), .ro false (di x_P_V_N), .ro false (.str x_P_V_S), .ro k0 (.sl 7 (x_P_L.map XPred.e)), .ro false (di x_Col), .ro k0 (.sl 1 (x_Out.map ei))], .st [.ro false (di 0), .ro false (di 0), .ro false (di 0), .ro false (di 0), .ro false (di 0), .ro false (di 0), .ro false (.str ⟨#[]⟩), .ro k1 (.sl 7 []), .ro false (di 0), .ro k1 (.sl 1 [])]] = some (vb (noQ x_Kind x_P_Kind x_P_Col x_P_Op x_P_V_Ty x_P_V_N x_P_V_S x_P_L x_Col x_Out), []) := by
  rw [← queryEq_zero]
  have e : (⟨#[]⟩ : ByteArray).size ≤ 1048576 := by decide
  exact t86 k0 k1 x_Kind x_P_Kind x_P_Col x_P_Op x_P_V_Ty x_P_V_N x_P_V_S x_P_L x_Col x_Out 0 0 0 0 0 0 ⟨#[]⟩ [] 0 [] hsm_x_P_V_S hsm_x_P_L hsms_x_P_L hsm_x_Out e (by simp) (by simp [XPred.sms]) (by simp)

attribute [irreducible] noQ

@[simp] theorem flatD_nil : flatD [] = true := rfl

@[simp] theorem flatD_map {α : Type} (f : α → List D) (l : List α) (h : ∀ x, (f x).all D.scal = true) : flatD (l.map f) = true := by
  simp only [flatD, List.all_map, List.all_eq_true, Function.comp]
  exact fun x _ => List.all_eq_true.1 (h x)

@[simp] theorem flatD_one (e : List D) (l : List (List D)) : flatD (e :: l) = (e.all D.scal && flatD l) := rfl

@[simp] theorem flatD_app (l m : List (List D)) : flatD (l ++ m) = (flatD l && flatD m) := by simp [flatD]

@[simp] theorem live_int (k : IntKind) (n : Int) : (D.int k n).live = true := rfl

@[simp] theorem live_bool (b : Bool) : (D.bool b).live = true := rfl

@[simp] theorem live_str (s : ByteArray) : (D.str s).live = true := rfl

@[simp] theorem live_sl (sz : Nat) (es : List (List D)) : (D.sl sz es).live = true := rfl

@[simp] theorem ba_one (x : UInt8) : (ByteArray.mk #[x]).size = 1 := rfl

@[simp] theorem take_all1 {α : Type} {n : Nat} (l r : List α) (x : α) (h : n = l.length + (r.length + 1)) : (l ++ x :: r).take n = l ++ x :: r := by
  rw [List.take_of_length_le]
  simp only [List.length_append, List.length_cons]
  omega

@[simp] theorem drop_mid1 {α : Type} {n : Nat} (l r : List α) (x : α) (h : n = l.length + 1) : (l ++ x :: r).drop n = r := by
  subst h
  rw [List.drop_append]
  simp

@[simp] theorem take_len_map {α β : Type} (f : α → β) (l : List α) : (l.map f).take l.length = l.map f := by
  rw [List.take_of_length_le]; simp

@[simp] theorem flatD_drop_map {α : Type} (f : α → List D) (l : List α) (n : Nat) (h : ∀ x, (f x).all D.scal = true) : flatD ((l.map f).drop n) = true := by
  rw [← List.map_drop]; exact flatD_map f _ h

@[simp] theorem flatD_take_map {α : Type} (f : α → List D) (l : List α) (n : Nat) (h : ∀ x, (f x).all D.scal = true) : flatD ((l.map f).take n) = true := by
  rw [← List.map_take]; exact flatD_map f _ h

structure XCur where
  b : List Int
  i : Nat
  h : Int
  hb : b.length ≤ 1048576

theorem and255 (x : Nat) : 0 ≤ IntKind.wrap .i64 ((x &&& 255 % 2 ^ IntKind.i64.bits : Nat) : Int) ∧ IntKind.wrap .i64 ((x &&& 255 % 2 ^ IntKind.i64.bits : Nat) : Int) ≤ 255 := by
  have h0 : 255 % 2 ^ IntKind.i64.bits = 255 := by decide
  rw [h0]
  have h : x &&& 255 ≤ 255 := Nat.and_le_right
  rw [wrap_i64 (by omega) (by omega)]
  omega

theorem d379_ex (k0 : Bool) (b : List Int) (hb : b.length ≤ 1048576) : ∃ h : Int, Gw TT 379 [.one (.ro k0 (.sl 1 (b.map eb)))] = some (.ptr [.ro k0 (.sl 1 (b.map eb)), .ro false (di 0), .ro false (di h)], []) := by
  suffices h0 : ∃ y, Gw TT 379 [.one (.ro k0 (.sl 1 (b.map eb)))] = some y ∧ ∃ h : Int, y = (.ptr [.ro k0 (.sl 1 (b.map eb)), .ro false (di 0), .ro false (di h)], []) by
    obtain ⟨y, h1, h, rfl⟩ := h0
    exact ⟨h, h1⟩
  refine Gw_ofE (F := pf379) rfl rfl ?_
  show Wp _ pb379 _ _
  unfold pb379
  repeat' (first
    | with_reducible (first | refine wp_seq ?_ | refine wp_blk ?_ | refine wp_skip ?_ | refine wp_exit ?_ | refine wp_ret ?_ | refine seqQ_norm ?_ | refine seqQ_ret ?_ | refine seqQ_exit ?_ | refine blkQ_norm ?_ | refine blkQ_ret ?_ | refine blkQ_exit ?_ | refine loopQ_norm ?_ | refine loopQ_exit ?_ | refine loopQ_ret ?_ | refine endQ_ret ?_ | refine endQ_norm ?_ | refine endE_ret ?_ | refine endE_norm ?_ | refine endI_ret ?_ | refine endI_norm ?_)
    | (with_reducible refine wp_regK fun K hK => ?_
       simp
       repeat' (with_reducible first | refine hK _ ?_ | (refine psel ?_ ?_ <;> (intro hc; (try rw [Decidable.not_not] at hc); first | (exfalso; omega) | (try simp [hc]))))
       all_goals (clear hK; clear K))
    | (with_reducible refine wp_condE ?_
       refine ⟨_, rfl, ?_, ?_⟩ <;> (intro hc; (try simp at hc); (all_goals first | (exfalso; omega) | skip))))
  refine wp_loopI (σ := List Int × List Int × Int) (fun s => [(0, AV.v k0 (D.sl 1 (b.map eb)), none), (3, AV.v false (di s.2.2), none), (4, AV.v false (di ((s.1.length : Nat) : Int)), none)]) (fun s => b = s.1 ++ s.2.1) (fun s => s.2.1.length) ([], b, IntKind.wrap .i64 (154242 + (b.length : Int))) (by simp) rfl ?_
  rintro ⟨pre, rest, a⟩ h1
  simp only at h1
  subst h1
  simp only [List.length_append, List.length_cons] at hb
  rcases rest with _ | ⟨d, rest⟩
  · unfold pl379_0
    repeat' (first
      | with_reducible (first | refine wp_seq ?_ | refine wp_blk ?_ | refine wp_skip ?_ | refine wp_exit ?_ | refine wp_ret ?_ | refine seqQ_norm ?_ | refine seqQ_ret ?_ | refine seqQ_exit ?_ | refine blkQ_norm ?_ | refine blkQ_ret ?_ | refine blkQ_exit ?_ | refine loopQ_norm ?_ | refine loopQ_exit ?_ | refine loopQ_ret ?_ | refine endQ_ret ?_ | refine endQ_norm ?_ | refine endE_ret ?_ | refine endE_norm ?_ | refine endI_ret ?_ | refine endI_norm ?_)
      | (with_reducible refine wp_regK fun K hK => ?_
         simp
         repeat' (with_reducible first | refine hK _ ?_ | (refine psel ?_ ?_ <;> (intro hc; (try rw [Decidable.not_not] at hc); first | (exfalso; omega) | (try simp [hc]))))
         all_goals (clear hK; clear K))
      | (with_reducible refine wp_condE ?_
         refine ⟨_, rfl, ?_, ?_⟩ <;> (intro hc; (try simp at hc); (all_goals first | (exfalso; omega) | skip))))
    all_goals exact ⟨_, by simp [pf379]; rfl, a, by simp⟩
  · unfold pl379_0
    simp only [List.length_cons] at hb
    have hw : IntKind.wrap .i64 ((pre.length : Int) + 1) = (pre.length : Int) + 1 := wrap_i64 (by omega) (by omega)
    repeat' (first
      | with_reducible (first | refine wp_seq ?_ | refine wp_blk ?_ | refine wp_skip ?_ | refine wp_exit ?_ | refine wp_ret ?_ | refine seqQ_norm ?_ | refine seqQ_ret ?_ | refine seqQ_exit ?_ | refine blkQ_norm ?_ | refine blkQ_ret ?_ | refine blkQ_exit ?_ | refine loopQ_norm ?_ | refine loopQ_exit ?_ | refine loopQ_ret ?_ | refine endQ_ret ?_ | refine endQ_norm ?_ | refine endE_ret ?_ | refine endE_norm ?_ | refine endI_ret ?_ | refine endI_norm ?_)
      | (with_reducible refine wp_regK fun K hK => ?_
         simp[hw]
         repeat' (with_reducible first | refine hK _ ?_ | (refine psel ?_ ?_ <;> (intro hc; (try rw [Decidable.not_not] at hc); first | (exfalso; omega) | (try simp [hc, hw]))))
         all_goals (clear hK; clear K))
      | (with_reducible refine wp_condE ?_
         refine ⟨_, rfl, ?_, ?_⟩ <;> (intro hc; (try simp at hc); (all_goals first | (exfalso; omega) | skip))))
    all_goals first | exact ⟨(pre ++ [d], rest, _), by simp; rfl, by simp, by simp⟩ | exact ⟨_, by simp [pf379]; rfl, a, by simp⟩

noncomputable def newC (b : List Int) (hb : b.length ≤ 1048576) : XCur := ⟨b, 0, Classical.choose (d379_ex false b hb), hb⟩

@[simp] theorem t379 (b : List Int) (hb : b.length ≤ 1048576) : Gw TT 379 [.one (.ro false (.sl 1 (b.map eb)))] = some (.ptr [.ro false (.sl 1 ((newC b hb).b.map eb)), .ro false (di ((newC b hb).i : Nat)), .ro false (di (newC b hb).h)], []) := Classical.choose_spec (d379_ex false b hb)

theorem d376_ex (c : XCur)  : ∃ r : (Int) × XCur, Gw TT 376 [.ptr [.ro false (.sl 1 (c.b.map eb)), .ro false (di (c.i : Nat)), .ro false (di c.h)]] = some (vi r.1, [(0, 0, .ro false (.sl 1 (r.2.b.map eb))), (0, 1, .ro false (di (r.2.i : Nat))), (0, 2, .ro false (di r.2.h))]) ∧ (0 ≤ r.1 ∧ r.1 ≤ 255) := by
  suffices h0 : ∃ y, Gw TT 376 [.ptr [.ro false (.sl 1 (c.b.map eb)), .ro false (di (c.i : Nat)), .ro false (di c.h)]] = some y ∧ ∃ r : (Int) × XCur, y = (vi r.1, [(0, 0, .ro false (.sl 1 (r.2.b.map eb))), (0, 1, .ro false (di (r.2.i : Nat))), (0, 2, .ro false (di r.2.h))]) ∧ (0 ≤ r.1 ∧ r.1 ≤ 255) by
    obtain ⟨y, h1, r, rfl, h2⟩ := h0
    exact ⟨r, h1, h2⟩
  refine Gw_ofE (F := pf376) rfl rfl ?_
  show Wp _ pb376 _ _
  unfold pb376
  obtain ⟨b, i, h, hb⟩ := c
  by_cases hi : i < b.length
  · have hw : IntKind.wrap .i64 ((i : Int) + 1) = (i : Int) + 1 := wrap_i64 (by omega) (by omega)
    repeat' (first
      | with_reducible (first | refine wp_seq ?_ | refine wp_blk ?_ | refine wp_skip ?_ | refine wp_exit ?_ | refine wp_ret ?_ | refine seqQ_norm ?_ | refine seqQ_ret ?_ | refine seqQ_exit ?_ | refine blkQ_norm ?_ | refine blkQ_ret ?_ | refine blkQ_exit ?_ | refine loopQ_norm ?_ | refine loopQ_exit ?_ | refine loopQ_ret ?_ | refine endQ_ret ?_ | refine endQ_norm ?_ | refine endE_ret ?_ | refine endE_norm ?_ | refine endI_ret ?_ | refine endI_norm ?_)
      | (with_reducible refine wp_regK fun K hK => ?_
         simp[hi, hw]
         repeat' (with_reducible first | refine hK _ ?_ | (refine psel ?_ ?_ <;> (intro hc; (try rw [Decidable.not_not] at hc); first | (exfalso; omega) | (try simp [hc, hi, hw]))))
         all_goals (clear hK; clear K))
      | (with_reducible refine wp_condE ?_
         refine ⟨_, rfl, ?_, ?_⟩ <;> (intro hc; (try simp at hc); (all_goals first | (exfalso; omega) | skip))))
    all_goals first | (exfalso; omega) | (refine ⟨_, by simp [pf376]; rfl, ?_⟩; exact ⟨(_, ⟨b, i + 1, _, hb⟩), rfl, and255 _⟩)
  · repeat' (first
      | with_reducible (first | refine wp_seq ?_ | refine wp_blk ?_ | refine wp_skip ?_ | refine wp_exit ?_ | refine wp_ret ?_ | refine seqQ_norm ?_ | refine seqQ_ret ?_ | refine seqQ_exit ?_ | refine blkQ_norm ?_ | refine blkQ_ret ?_ | refine blkQ_exit ?_ | refine loopQ_norm ?_ | refine loopQ_exit ?_ | refine loopQ_ret ?_ | refine endQ_ret ?_ | refine endQ_norm ?_ | refine endE_ret ?_ | refine endE_norm ?_ | refine endI_ret ?_ | refine endI_norm ?_)
      | (with_reducible refine wp_regK fun K hK => ?_
         simp[hi]
         repeat' (with_reducible first | refine hK _ ?_ | (refine psel ?_ ?_ <;> (intro hc; (try rw [Decidable.not_not] at hc); first | (exfalso; omega) | (try simp [hc, hi]))))
         all_goals (clear hK; clear K))
      | (with_reducible refine wp_condE ?_
         refine ⟨_, rfl, ?_, ?_⟩ <;> (intro hc; (try simp at hc); (all_goals first | (exfalso; omega) | skip))))
    all_goals first | (exfalso; omega) | (refine ⟨_, by simp [pf376]; rfl, ?_⟩; exact ⟨(_, ⟨b, i, _, hb⟩), rfl, and255 _⟩)

noncomputable def d376 (c : XCur)  : (Int) × XCur := Classical.choose (d376_ex c)

@[simp] theorem t376 (c : XCur)  : Gw TT 376 [.ptr [.ro false (.sl 1 (c.b.map eb)), .ro false (di (c.i : Nat)), .ro false (di c.h)]] = some (vi (d376 c).1, [(0, 0, .ro false (.sl 1 ((d376 c).2.b.map eb))), (0, 1, .ro false (di ((d376 c).2.i : Nat))), (0, 2, .ro false (di (d376 c).2.h))]) := (Classical.choose_spec (d376_ex c)).1

theorem p376 (c : XCur)  : 0 ≤ (d376 c).1 ∧ (d376 c).1 ≤ 255 := (Classical.choose_spec (d376_ex c)).2

theorem tmod_lt {x n : Int} (h0 : 0 ≤ x) (h : 0 < n) : 0 ≤ x.tmod n ∧ x.tmod n < n := by
  rw [Int.tmod_eq_emod_of_nonneg h0]
  exact ⟨Int.emod_nonneg _ (by omega), Int.emod_lt_of_pos _ h⟩

theorem d375_ex (c : XCur) (n : Int) : ∃ r : (Int) × XCur, Gw TT 375 [.ptr [.ro false (.sl 1 (c.b.map eb)), .ro false (di (c.i : Nat)), .ro false (di c.h)], vi n] = some (vi r.1, [(0, 0, .ro false (.sl 1 (r.2.b.map eb))), (0, 1, .ro false (di (r.2.i : Nat))), (0, 2, .ro false (di r.2.h))]) ∧ (0 ≤ r.1 ∧ (0 < n → r.1 < n) ∧ (n ≤ 0 → r.1 = 0)) := by
  suffices h0 : ∃ y, Gw TT 375 [.ptr [.ro false (.sl 1 (c.b.map eb)), .ro false (di (c.i : Nat)), .ro false (di c.h)], vi n] = some y ∧ ∃ r : (Int) × XCur, y = (vi r.1, [(0, 0, .ro false (.sl 1 (r.2.b.map eb))), (0, 1, .ro false (di (r.2.i : Nat))), (0, 2, .ro false (di r.2.h))]) ∧ (0 ≤ r.1 ∧ (0 < n → r.1 < n) ∧ (n ≤ 0 → r.1 = 0)) by
    obtain ⟨y, h1, r, rfl, h2⟩ := h0
    exact ⟨r, h1, h2⟩
  refine Gw_ofE (F := pf375) rfl rfl ?_
  show Wp _ pb375 _ _
  unfold pb375
  by_cases h0 : n ≤ 0
  · repeat' (first
      | with_reducible (first | refine wp_seq ?_ | refine wp_blk ?_ | refine wp_skip ?_ | refine wp_exit ?_ | refine wp_ret ?_ | refine seqQ_norm ?_ | refine seqQ_ret ?_ | refine seqQ_exit ?_ | refine blkQ_norm ?_ | refine blkQ_ret ?_ | refine blkQ_exit ?_ | refine loopQ_norm ?_ | refine loopQ_exit ?_ | refine loopQ_ret ?_ | refine endQ_ret ?_ | refine endQ_norm ?_ | refine endE_ret ?_ | refine endE_norm ?_ | refine endI_ret ?_ | refine endI_norm ?_)
      | (with_reducible refine wp_regK fun K hK => ?_
         simp[h0]
         repeat' (with_reducible first | refine hK _ ?_ | (refine psel ?_ ?_ <;> (intro hc; (try rw [Decidable.not_not] at hc); first | (exfalso; omega) | (try simp [hc, h0]))))
         all_goals (clear hK; clear K))
      | (with_reducible refine wp_condE ?_
         refine ⟨_, rfl, ?_, ?_⟩ <;> (intro hc; (try simp at hc); (all_goals first | (exfalso; omega) | skip))))
    all_goals first | (exfalso; omega) | (refine ⟨_, by simp [pf375]; rfl, ?_⟩; exact ⟨(0, c), rfl, by omega, by omega, fun _ => rfl⟩)
  · have hn : n ≠ 0 := by omega
    by_cases h1 : n ≤ 256
    · have q := p376 c
      have q2 := tmod_lt (n := n) q.1 (by omega)
      repeat' (first
        | with_reducible (first | refine wp_seq ?_ | refine wp_blk ?_ | refine wp_skip ?_ | refine wp_exit ?_ | refine wp_ret ?_ | refine seqQ_norm ?_ | refine seqQ_ret ?_ | refine seqQ_exit ?_ | refine blkQ_norm ?_ | refine blkQ_ret ?_ | refine blkQ_exit ?_ | refine loopQ_norm ?_ | refine loopQ_exit ?_ | refine loopQ_ret ?_ | refine endQ_ret ?_ | refine endQ_norm ?_ | refine endE_ret ?_ | refine endE_norm ?_ | refine endI_ret ?_ | refine endI_norm ?_)
        | (with_reducible refine wp_regK fun K hK => ?_
           simp[h0, h1, hn]
           repeat' (with_reducible first | refine hK _ ?_ | (refine psel ?_ ?_ <;> (intro hc; (try rw [Decidable.not_not] at hc); first | (exfalso; omega) | (try simp [hc, h0, h1, hn]))))
           all_goals (clear hK; clear K))
        | (with_reducible refine wp_condE ?_
           refine ⟨_, rfl, ?_, ?_⟩ <;> (intro hc; (try simp at hc); (all_goals first | (exfalso; omega) | skip))))
      all_goals first | (exfalso; omega) | (refine ⟨_, by simp [pf375]; rfl, ?_⟩; exact ⟨(_, (d376 c).2), rfl, q2.1, fun _ => q2.2, fun h => absurd h h0⟩)
    · have q1 := p376 c
      have q2 := p376 (d376 c).2
      have q3 := p376 (d376 (d376 c).2).2
      have w1 : IntKind.wrap .i64 ((d376 c).1 * 65536) = (d376 c).1 * 65536 := wrap_i64 (by omega) (by omega)
      have w2 : IntKind.wrap .i64 ((d376 (d376 c).2).1 * 256) = (d376 (d376 c).2).1 * 256 := wrap_i64 (by omega) (by omega)
      have w3 : IntKind.wrap .i64 ((d376 c).1 * 65536 + (d376 (d376 c).2).1 * 256) = (d376 c).1 * 65536 + (d376 (d376 c).2).1 * 256 := wrap_i64 (by omega) (by omega)
      have w4 : IntKind.wrap .i64 ((d376 c).1 * 65536 + (d376 (d376 c).2).1 * 256 + (d376 (d376 (d376 c).2).2).1) = (d376 c).1 * 65536 + (d376 (d376 c).2).1 * 256 + (d376 (d376 (d376 c).2).2).1 := wrap_i64 (by omega) (by omega)
      have q4 := tmod_lt (x := (d376 c).1 * 65536 + (d376 (d376 c).2).1 * 256 + (d376 (d376 (d376 c).2).2).1) (n := n) (by omega) (by omega)
      repeat' (first
        | with_reducible (first | refine wp_seq ?_ | refine wp_blk ?_ | refine wp_skip ?_ | refine wp_exit ?_ | refine wp_ret ?_ | refine seqQ_norm ?_ | refine seqQ_ret ?_ | refine seqQ_exit ?_ | refine blkQ_norm ?_ | refine blkQ_ret ?_ | refine blkQ_exit ?_ | refine loopQ_norm ?_ | refine loopQ_exit ?_ | refine loopQ_ret ?_ | refine endQ_ret ?_ | refine endQ_norm ?_ | refine endE_ret ?_ | refine endE_norm ?_ | refine endI_ret ?_ | refine endI_norm ?_)
        | (with_reducible refine wp_regK fun K hK => ?_
           simp[h0, h1, hn, w1, w2, w3, w4]
           repeat' (with_reducible first | refine hK _ ?_ | (refine psel ?_ ?_ <;> (intro hc; (try rw [Decidable.not_not] at hc); first | (exfalso; omega) | (try simp [hc, h0, h1, hn, w1, w2, w3, w4]))))
           all_goals (clear hK; clear K))
        | (with_reducible refine wp_condE ?_
           refine ⟨_, rfl, ?_, ?_⟩ <;> (intro hc; (try simp at hc); (all_goals first | (exfalso; omega) | skip))))
      all_goals first | (exfalso; omega) | (refine ⟨_, by simp [pf375]; rfl, ?_⟩; exact ⟨(_, (d376 (d376 (d376 c).2).2).2), rfl, q4.1, fun _ => q4.2, fun h => absurd h h0⟩)

noncomputable def d375 (c : XCur) (n : Int) : (Int) × XCur := Classical.choose (d375_ex c n)

@[simp] theorem t375 (c : XCur) (n : Int) : Gw TT 375 [.ptr [.ro false (.sl 1 (c.b.map eb)), .ro false (di (c.i : Nat)), .ro false (di c.h)], vi n] = some (vi (d375 c n).1, [(0, 0, .ro false (.sl 1 ((d375 c n).2.b.map eb))), (0, 1, .ro false (di ((d375 c n).2.i : Nat))), (0, 2, .ro false (di (d375 c n).2.h))]) := (Classical.choose_spec (d375_ex c n)).1

theorem p375 (c : XCur) (n : Int) : 0 ≤ (d375 c n).1 ∧ (0 < n → (d375 c n).1 < n) ∧ (n ≤ 0 → (d375 c n).1 = 0) := (Classical.choose_spec (d375_ex c n)).2

theorem d382_ex (c : XCur) (n : Int) : ∃ r : (Bool) × XCur, Gw TT 382 [.ptr [.ro false (.sl 1 (c.b.map eb)), .ro false (di (c.i : Nat)), .ro false (di c.h)], vi n] = some (vb r.1, [(0, 0, .ro false (.sl 1 (r.2.b.map eb))), (0, 1, .ro false (di (r.2.i : Nat))), (0, 2, .ro false (di r.2.h))]) ∧ (True) := by
  suffices h0 : ∃ y, Gw TT 382 [.ptr [.ro false (.sl 1 (c.b.map eb)), .ro false (di (c.i : Nat)), .ro false (di c.h)], vi n] = some y ∧ ∃ r : (Bool) × XCur, y = (vb r.1, [(0, 0, .ro false (.sl 1 (r.2.b.map eb))), (0, 1, .ro false (di (r.2.i : Nat))), (0, 2, .ro false (di r.2.h))]) ∧ (True) by
    obtain ⟨y, h1, r, rfl, h2⟩ := h0
    exact ⟨r, h1, h2⟩
  refine Gw_ofE (F := pf382) rfl rfl ?_
  show Wp _ pb382 _ _
  unfold pb382
  repeat' (first
    | with_reducible (first | refine wp_seq ?_ | refine wp_blk ?_ | refine wp_skip ?_ | refine wp_exit ?_ | refine wp_ret ?_ | refine seqQ_norm ?_ | refine seqQ_ret ?_ | refine seqQ_exit ?_ | refine blkQ_norm ?_ | refine blkQ_ret ?_ | refine blkQ_exit ?_ | refine loopQ_norm ?_ | refine loopQ_exit ?_ | refine loopQ_ret ?_ | refine endQ_ret ?_ | refine endQ_norm ?_ | refine endE_ret ?_ | refine endE_norm ?_ | refine endI_ret ?_ | refine endI_norm ?_)
    | (with_reducible refine wp_regK fun K hK => ?_
       simp
       repeat' (with_reducible first | refine hK _ ?_ | (refine psel ?_ ?_ <;> (intro hc; (try rw [Decidable.not_not] at hc); first | (exfalso; omega) | (try simp [hc]))))
       all_goals (clear hK; clear K))
    | (with_reducible refine wp_condE ?_
       refine ⟨_, rfl, ?_, ?_⟩ <;> (intro hc; (try simp at hc); (all_goals first | (exfalso; omega) | skip))))
  all_goals (refine ⟨_, by simp [pf382]; rfl, ?_⟩; exact ⟨((d375 c n).1 == 0, (d375 c n).2), rfl, trivial⟩)

noncomputable def d382 (c : XCur) (n : Int) : (Bool) × XCur := Classical.choose (d382_ex c n)

@[simp] theorem t382 (c : XCur) (n : Int) : Gw TT 382 [.ptr [.ro false (.sl 1 (c.b.map eb)), .ro false (di (c.i : Nat)), .ro false (di c.h)], vi n] = some (vb (d382 c n).1, [(0, 0, .ro false (.sl 1 ((d382 c n).2.b.map eb))), (0, 1, .ro false (di ((d382 c n).2.i : Nat))), (0, 2, .ro false (di (d382 c n).2.h))]) := (Classical.choose_spec (d382_ex c n)).1

theorem d378_ex (c : XCur) (k0 : Bool) (L : List (List D)) (h0 : 0 < L.length) (h1 : L.length ≤ 256) (hL : ∀ e ∈ L, ∃ n : Int, e = [di n]) : ∃ r : (Int) × XCur, Gw TT 378 [.ptr [.ro false (.sl 1 (c.b.map eb)), .ro false (di (c.i : Nat)), .ro false (di c.h)], .one (.ro k0 (.sl 1 L))] = some (vi r.1, [(0, 0, .ro false (.sl 1 (r.2.b.map eb))), (0, 1, .ro false (di (r.2.i : Nat))), (0, 2, .ro false (di r.2.h))]) ∧ ([di r.1] ∈ L) := by
  suffices h0 : ∃ y, Gw TT 378 [.ptr [.ro false (.sl 1 (c.b.map eb)), .ro false (di (c.i : Nat)), .ro false (di c.h)], .one (.ro k0 (.sl 1 L))] = some y ∧ ∃ r : (Int) × XCur, y = (vi r.1, [(0, 0, .ro false (.sl 1 (r.2.b.map eb))), (0, 1, .ro false (di (r.2.i : Nat))), (0, 2, .ro false (di r.2.h))]) ∧ ([di r.1] ∈ L) by
    obtain ⟨y, h1, r, rfl, h2⟩ := h0
    exact ⟨r, h1, h2⟩
  refine Gw_ofE (F := pf378) rfl rfl ?_
  show Wp _ pb378 _ _
  unfold pb378
  obtain ⟨q1, q2, q3⟩ := p375 c (L.length : Int)
  have q4 := q2 (by omega)
  have hlt : (d375 c (L.length : Int)).1.toNat < L.length := by omega
  obtain ⟨x, hx⟩ := hL _ (List.getElem_mem hlt)
  have hx2 : L[(d375 c (L.length : Int)).1.toNat]? = some [di x] := by rw [List.getElem?_eq_getElem hlt, hx]
  repeat' (first
    | with_reducible (first | refine wp_seq ?_ | refine wp_blk ?_ | refine wp_skip ?_ | refine wp_exit ?_ | refine wp_ret ?_ | refine seqQ_norm ?_ | refine seqQ_ret ?_ | refine seqQ_exit ?_ | refine blkQ_norm ?_ | refine blkQ_ret ?_ | refine blkQ_exit ?_ | refine loopQ_norm ?_ | refine loopQ_exit ?_ | refine loopQ_ret ?_ | refine endQ_ret ?_ | refine endQ_norm ?_ | refine endE_ret ?_ | refine endE_norm ?_ | refine endI_ret ?_ | refine endI_norm ?_)
    | (with_reducible refine wp_regK fun K hK => ?_
       simp[q1, q4, hx2, hx]
       repeat' (with_reducible first | refine hK _ ?_ | (refine psel ?_ ?_ <;> (intro hc; (try rw [Decidable.not_not] at hc); first | (exfalso; omega) | (try simp [hc, q1, q4, hx2, hx]))))
       all_goals (clear hK; clear K))
    | (with_reducible refine wp_condE ?_
       refine ⟨_, rfl, ?_, ?_⟩ <;> (intro hc; (try simp at hc); (all_goals first | (exfalso; omega) | skip))))
  all_goals first | (exfalso; omega) | (refine ⟨_, by simp [pf378]; rfl, ?_⟩; exact ⟨(x, (d375 c (L.length : Int)).2), rfl, hx ▸ List.getElem_mem hlt⟩)

noncomputable def d378 (c : XCur) (k0 : Bool) (L : List (List D)) (h0 : 0 < L.length) (h1 : L.length ≤ 256) (hL : ∀ e ∈ L, ∃ n : Int, e = [di n]) : (Int) × XCur := Classical.choose (d378_ex c k0 L h0 h1 hL)

theorem t378 (c : XCur) (k0 : Bool) (L : List (List D)) (h0 : 0 < L.length) (h1 : L.length ≤ 256) (hL : ∀ e ∈ L, ∃ n : Int, e = [di n]) : Gw TT 378 [.ptr [.ro false (.sl 1 (c.b.map eb)), .ro false (di (c.i : Nat)), .ro false (di c.h)], .one (.ro k0 (.sl 1 L))] = some (vi (d378 c k0 L h0 h1 hL).1, [(0, 0, .ro false (.sl 1 ((d378 c k0 L h0 h1 hL).2.b.map eb))), (0, 1, .ro false (di ((d378 c k0 L h0 h1 hL).2.i : Nat))), (0, 2, .ro false (di (d378 c k0 L h0 h1 hL).2.h))]) := (Classical.choose_spec (d378_ex c k0 L h0 h1 hL)).1

@[simp] theorem t141 (k0 : Bool) (b : List Int) (h : b.length ≤ 9223372036854775807) : Gw TT 141 [.one (.ro k0 (.sl 1 (b.map eb)))] = some (vb (decide (1048576 < (b.length : Int))), []) := by
  refine Gw_of (F := pf141) rfl rfl ?_
  show Wp _ pb141 _ _
  unfold pb141
  repeat' (first
    | with_reducible (first | refine wp_seq ?_ | refine wp_blk ?_ | refine wp_skip ?_ | refine wp_exit ?_ | refine wp_ret ?_ | refine seqQ_norm ?_ | refine seqQ_ret ?_ | refine seqQ_exit ?_ | refine blkQ_norm ?_ | refine blkQ_ret ?_ | refine blkQ_exit ?_ | refine loopQ_norm ?_ | refine loopQ_exit ?_ | refine loopQ_ret ?_ | refine endQ_ret ?_ | refine endQ_norm ?_ | refine endE_ret ?_ | refine endE_norm ?_ | refine endI_ret ?_ | refine endI_norm ?_)
    | (with_reducible refine wp_regK fun K hK => ?_
       simp
       repeat' (with_reducible first | refine hK _ ?_ | (refine psel ?_ ?_ <;> (intro hc; (try rw [Decidable.not_not] at hc); first | (exfalso; omega) | (try simp [hc]))))
       all_goals (clear hK; clear K))
    | (with_reducible refine wp_condE ?_
       refine ⟨_, rfl, ?_, ?_⟩ <;> (intro hc; (try simp at hc); (all_goals first | (exfalso; omega) | skip))))
  all_goals simp [pf141]

theorem d385_ex (c : XCur) (k0 : Bool) (L : List (List D)) (h0 : 0 < L.length) (h1 : L.length ≤ 256) (hL : ∀ e ∈ L, ∃ s : ByteArray, e = [.str s] ∧ s.size ≤ 100) : ∃ r : (ByteArray) × XCur, Gw TT 385 [.ptr [.ro false (.sl 1 (c.b.map eb)), .ro false (di (c.i : Nat)), .ro false (di c.h)], .one (.ro k0 (.sl 1 L))] = some (.one (.ro false (.str r.1)), [(0, 0, .ro false (.sl 1 (r.2.b.map eb))), (0, 1, .ro false (di (r.2.i : Nat))), (0, 2, .ro false (di r.2.h))]) ∧ (r.1.size ≤ 100) := by
  suffices h0 : ∃ y, Gw TT 385 [.ptr [.ro false (.sl 1 (c.b.map eb)), .ro false (di (c.i : Nat)), .ro false (di c.h)], .one (.ro k0 (.sl 1 L))] = some y ∧ ∃ r : (ByteArray) × XCur, y = (.one (.ro false (.str r.1)), [(0, 0, .ro false (.sl 1 (r.2.b.map eb))), (0, 1, .ro false (di (r.2.i : Nat))), (0, 2, .ro false (di r.2.h))]) ∧ (r.1.size ≤ 100) by
    obtain ⟨y, h1, r, rfl, h2⟩ := h0
    exact ⟨r, h1, h2⟩
  refine Gw_ofE (F := pf385) rfl rfl ?_
  show Wp _ pb385 _ _
  unfold pb385
  obtain ⟨q1, q2, q3⟩ := p375 c (L.length : Int)
  have q4 := q2 (by omega)
  have hlt : (d375 c (L.length : Int)).1.toNat < L.length := by omega
  obtain ⟨x, hx, hxs⟩ := hL _ (List.getElem_mem hlt)
  have hx2 : L[(d375 c (L.length : Int)).1.toNat]? = some [.str x] := by rw [List.getElem?_eq_getElem hlt, hx]
  repeat' (first
    | with_reducible (first | refine wp_seq ?_ | refine wp_blk ?_ | refine wp_skip ?_ | refine wp_exit ?_ | refine wp_ret ?_ | refine seqQ_norm ?_ | refine seqQ_ret ?_ | refine seqQ_exit ?_ | refine blkQ_norm ?_ | refine blkQ_ret ?_ | refine blkQ_exit ?_ | refine loopQ_norm ?_ | refine loopQ_exit ?_ | refine loopQ_ret ?_ | refine endQ_ret ?_ | refine endQ_norm ?_ | refine endE_ret ?_ | refine endE_norm ?_ | refine endI_ret ?_ | refine endI_norm ?_)
    | (with_reducible refine wp_regK fun K hK => ?_
       simp[q1, q4, hx2, hx]
       repeat' (with_reducible first | refine hK _ ?_ | (refine psel ?_ ?_ <;> (intro hc; (try rw [Decidable.not_not] at hc); first | (exfalso; omega) | (try simp [hc, q1, q4, hx2, hx]))))
       all_goals (clear hK; clear K))
    | (with_reducible refine wp_condE ?_
       refine ⟨_, rfl, ?_, ?_⟩ <;> (intro hc; (try simp at hc); (all_goals first | (exfalso; omega) | skip))))
  all_goals first | (exfalso; omega) | (refine ⟨_, by simp [pf385]; rfl, ?_⟩; exact ⟨(x, (d375 c (L.length : Int)).2), rfl, hxs⟩)

noncomputable def d385 (c : XCur) (k0 : Bool) (L : List (List D)) (h0 : 0 < L.length) (h1 : L.length ≤ 256) (hL : ∀ e ∈ L, ∃ s : ByteArray, e = [.str s] ∧ s.size ≤ 100) : (ByteArray) × XCur := Classical.choose (d385_ex c k0 L h0 h1 hL)

theorem t385 (c : XCur) (k0 : Bool) (L : List (List D)) (h0 : 0 < L.length) (h1 : L.length ≤ 256) (hL : ∀ e ∈ L, ∃ s : ByteArray, e = [.str s] ∧ s.size ≤ 100) : Gw TT 385 [.ptr [.ro false (.sl 1 (c.b.map eb)), .ro false (di (c.i : Nat)), .ro false (di c.h)], .one (.ro k0 (.sl 1 L))] = some (.one (.ro false (.str (d385 c k0 L h0 h1 hL).1)), [(0, 0, .ro false (.sl 1 ((d385 c k0 L h0 h1 hL).2.b.map eb))), (0, 1, .ro false (di ((d385 c k0 L h0 h1 hL).2.i : Nat))), (0, 2, .ro false (di (d385 c k0 L h0 h1 hL).2.h))]) := (Classical.choose_spec (d385_ex c k0 L h0 h1 hL)).1

theorem p385 (c : XCur) (k0 : Bool) (L : List (List D)) (h0 : 0 < L.length) (h1 : L.length ≤ 256) (hL : ∀ e ∈ L, ∃ s : ByteArray, e = [.str s] ∧ s.size ≤ 100) : (d385 c k0 L h0 h1 hL).1.size ≤ 100 := (Classical.choose_spec (d385_ex c k0 L h0 h1 hL)).2

theorem d380_ex (c : XCur)  : ∃ r : (Int) × XCur, Gw TT 380 [.ptr [.ro false (.sl 1 (c.b.map eb)), .ro false (di (c.i : Nat)), .ro false (di c.h)]] = some (vi r.1, [(0, 0, .ro false (.sl 1 (r.2.b.map eb))), (0, 1, .ro false (di (r.2.i : Nat))), (0, 2, .ro false (di r.2.h))]) ∧ (True) := by
  suffices h0 : ∃ y, Gw TT 380 [.ptr [.ro false (.sl 1 (c.b.map eb)), .ro false (di (c.i : Nat)), .ro false (di c.h)]] = some y ∧ ∃ r : (Int) × XCur, y = (vi r.1, [(0, 0, .ro false (.sl 1 (r.2.b.map eb))), (0, 1, .ro false (di (r.2.i : Nat))), (0, 2, .ro false (di r.2.h))]) ∧ (True) by
    obtain ⟨y, h1, r, rfl, h2⟩ := h0
    exact ⟨r, h1, h2⟩
  refine Gw_ofE (F := pf380) rfl rfl ?_
  show Wp _ pb380 _ _
  unfold pb380
  obtain ⟨⟨v, c1⟩, hv⟩ : ∃ r, d375 c 5 = r := ⟨_, rfl⟩
  obtain ⟨r, gr⟩ : ∃ r : Int × XCur, Gw TT 378 [.ptr [.ro false (.sl 1 (c1.b.map eb)), .ro false (di (c1.i : Nat)), .ro false (di c1.h)], .one (.ro true (.sl 1 [[di 0], [di (-1)], [di 1], [di 63], [di 64], [di (-64)], [di (-65)], [di 8191], [di 8192], [di 1000000000], [di (-1000000000)], [di 999999999]]))] = some (vi r.1, [(0, 0, .ro false (.sl 1 (r.2.b.map eb))), (0, 1, .ro false (di (r.2.i : Nat))), (0, 2, .ro false (di r.2.h))]) := ⟨_, t378 c1 true [[di 0], [di (-1)], [di 1], [di 63], [di 64], [di (-64)], [di (-65)], [di 8191], [di 8192], [di 1000000000], [di (-1000000000)], [di 999999999]] (by simp) (by simp) (by simp)⟩
  repeat' (first
    | with_reducible (first | refine wp_seq ?_ | refine wp_blk ?_ | refine wp_skip ?_ | refine wp_exit ?_ | refine wp_ret ?_ | refine seqQ_norm ?_ | refine seqQ_ret ?_ | refine seqQ_exit ?_ | refine blkQ_norm ?_ | refine blkQ_ret ?_ | refine blkQ_exit ?_ | refine loopQ_norm ?_ | refine loopQ_exit ?_ | refine loopQ_ret ?_ | refine endQ_ret ?_ | refine endQ_norm ?_ | refine endE_ret ?_ | refine endE_norm ?_ | refine endI_ret ?_ | refine endI_norm ?_)
    | (with_reducible refine wp_regK fun K hK => ?_
       simp[hv, gr]
       repeat' (with_reducible first | refine hK _ ?_ | (refine psel ?_ ?_ <;> (intro hc; (try rw [Decidable.not_not] at hc); first | (exfalso; omega) | (try simp [hc, hv, gr]))))
       all_goals (clear hK; clear K))
    | (with_reducible refine wp_condE ?_
       refine ⟨_, rfl, ?_, ?_⟩ <;> (intro hc; (try simp at hc); (all_goals first | (exfalso; omega) | skip))))
  all_goals first | (exfalso; omega) | (refine ⟨_, by simp [pf380]; rfl, ?_⟩; refine ⟨(r.1, r.2), ?_, trivial⟩; (focus (first | (simp; done) | (simp [*]; done)))) | (refine ⟨_, by simp [pf380]; rfl, ?_⟩; refine ⟨(IntKind.wrap .i64 ((d375 c1 300).1 - 150), (d375 c1 300).2), ?_, trivial⟩; (focus (first | (simp; done) | (simp [*]; done)))) | (refine ⟨_, by simp [pf380]; rfl, ?_⟩; refine ⟨(IntKind.wrap .i64 ((d375 c1 30000).1 * IntKind.wrap .i64 ((d375 (d375 c1 30000).2 30000).1 - 15000)), (d375 (d375 c1 30000).2 30000).2), ?_, trivial⟩; (focus (first | (simp; done) | (simp [*]; done)))) | (refine ⟨_, by simp [pf380]; rfl, ?_⟩; refine ⟨(IntKind.wrap .i64 ((d375 c1 20).1 - 5), (d375 c1 20).2), ?_, trivial⟩; (focus (first | (simp; done) | (simp [*]; done)))) | skip

noncomputable def d380 (c : XCur)  : (Int) × XCur := Classical.choose (d380_ex c)

@[simp] theorem t380 (c : XCur)  : Gw TT 380 [.ptr [.ro false (.sl 1 (c.b.map eb)), .ro false (di (c.i : Nat)), .ro false (di c.h)]] = some (vi (d380 c).1, [(0, 0, .ro false (.sl 1 ((d380 c).2.b.map eb))), (0, 1, .ro false (di ((d380 c).2.i : Nat))), (0, 2, .ro false (di (d380 c).2.h))]) := (Classical.choose_spec (d380_ex c)).1

theorem d395_ex (c : XCur)  : ∃ r : (XVal) × XCur, Gw TT 395 [.ptr [.ro false (.sl 1 (c.b.map eb)), .ro false (di (c.i : Nat)), .ro false (di c.h)]] = some (.st [.ro false (di r.1.Ty), .ro false (di r.1.N), .ro false (.str r.1.S)], [(0, 0, .ro false (.sl 1 (r.2.b.map eb))), (0, 1, .ro false (di (r.2.i : Nat))), (0, 2, .ro false (di r.2.h))]) ∧ (r.1.S.size ≤ 100) := by
  suffices h0 : ∃ y, Gw TT 395 [.ptr [.ro false (.sl 1 (c.b.map eb)), .ro false (di (c.i : Nat)), .ro false (di c.h)]] = some y ∧ ∃ r : (XVal) × XCur, y = (.st [.ro false (di r.1.Ty), .ro false (di r.1.N), .ro false (.str r.1.S)], [(0, 0, .ro false (.sl 1 (r.2.b.map eb))), (0, 1, .ro false (di (r.2.i : Nat))), (0, 2, .ro false (di r.2.h))]) ∧ (r.1.S.size ≤ 100) by
    obtain ⟨y, h1, r, rfl, h2⟩ := h0
    exact ⟨r, h1, h2⟩
  refine Gw_ofE (F := pf395) rfl rfl ?_
  show Wp _ pb395 _ _
  unfold pb395
  obtain ⟨⟨v, c1⟩, hv⟩ : ∃ r, d382 c 4 = r := ⟨_, rfl⟩
  obtain ⟨r, gr⟩ : ∃ r : Int × XCur, Gw TT 378 [.ptr [.ro false (.sl 1 (c1.b.map eb)), .ro false (di (c1.i : Nat)), .ro false (di c1.h)], .one (.ro true (.sl 1 [[di 0], [di 1], [di 2], [di 3], [di 7], [di (-1)]]))] = some (vi r.1, [(0, 0, .ro false (.sl 1 (r.2.b.map eb))), (0, 1, .ro false (di (r.2.i : Nat))), (0, 2, .ro false (di r.2.h))]) := ⟨_, t378 c1 true [[di 0], [di 1], [di 2], [di 3], [di 7], [di (-1)]] (by simp) (by simp) (by simp)⟩
  cases v with
  | true =>
    repeat' (first
      | with_reducible (first | refine wp_seq ?_ | refine wp_blk ?_ | refine wp_skip ?_ | refine wp_exit ?_ | refine wp_ret ?_ | refine seqQ_norm ?_ | refine seqQ_ret ?_ | refine seqQ_exit ?_ | refine blkQ_norm ?_ | refine blkQ_ret ?_ | refine blkQ_exit ?_ | refine loopQ_norm ?_ | refine loopQ_exit ?_ | refine loopQ_ret ?_ | refine endQ_ret ?_ | refine endQ_norm ?_ | refine endE_ret ?_ | refine endE_norm ?_ | refine endI_ret ?_ | refine endI_norm ?_)
      | (with_reducible refine wp_regK fun K hK => ?_
         simp[hv]
         repeat' (with_reducible first | refine hK _ ?_ | (refine psel ?_ ?_ <;> (intro hc; (try rw [Decidable.not_not] at hc); first | (exfalso; omega) | (try simp [hc, hv]))))
         all_goals (clear hK; clear K))
      | (with_reducible refine wp_condE ?_
         refine ⟨_, rfl, ?_, ?_⟩ <;> (intro hc; (try simp at hc); (all_goals first | (exfalso; omega) | skip))))
    all_goals (refine ⟨_, by simp [pf395]; rfl, ?_⟩; refine ⟨((⟨1, (d380 c1).1, ⟨#[]⟩⟩ : XVal), (d380 c1).2), ?_, ?_⟩; (focus (first | (simp; done) | (simp [*]; done))); (focus (simp [ByteArray.size])))
  | false =>
    repeat' (first
      | with_reducible (first | refine wp_seq ?_ | refine wp_blk ?_ | refine wp_skip ?_ | refine wp_exit ?_ | refine wp_ret ?_ | refine seqQ_norm ?_ | refine seqQ_ret ?_ | refine seqQ_exit ?_ | refine blkQ_norm ?_ | refine blkQ_ret ?_ | refine blkQ_exit ?_ | refine loopQ_norm ?_ | refine loopQ_exit ?_ | refine loopQ_ret ?_ | refine endQ_ret ?_ | refine endQ_norm ?_ | refine endE_ret ?_ | refine endE_norm ?_ | refine endI_ret ?_ | refine endI_norm ?_)
      | (with_reducible refine wp_regK fun K hK => ?_
         simp[hv, gr]
         repeat' (with_reducible first | refine hK _ ?_ | (refine psel ?_ ?_ <;> (intro hc; (try rw [Decidable.not_not] at hc); first | (exfalso; omega) | (try simp [hc, hv, gr]))))
         all_goals (clear hK; clear K))
      | (with_reducible refine wp_condE ?_
         refine ⟨_, rfl, ?_, ?_⟩ <;> (intro hc; (try simp at hc); (all_goals first | (exfalso; omega) | skip))))
    all_goals (refine ⟨_, by simp [pf395]; rfl, ?_⟩; refine ⟨((⟨1, r.1, ⟨#[]⟩⟩ : XVal), r.2), ?_, ?_⟩; (focus (first | (simp; done) | (simp [*]; done))); (focus (simp [ByteArray.size])))

noncomputable def d395 (c : XCur)  : (XVal) × XCur := Classical.choose (d395_ex c)

@[simp] theorem t395 (c : XCur)  : Gw TT 395 [.ptr [.ro false (.sl 1 (c.b.map eb)), .ro false (di (c.i : Nat)), .ro false (di c.h)]] = some (.st [.ro false (di (d395 c).1.Ty), .ro false (di (d395 c).1.N), .ro false (.str (d395 c).1.S)], [(0, 0, .ro false (.sl 1 ((d395 c).2.b.map eb))), (0, 1, .ro false (di ((d395 c).2.i : Nat))), (0, 2, .ro false (di (d395 c).2.h))]) := (Classical.choose_spec (d395_ex c)).1

theorem p395 (c : XCur)  : (d395 c).1.S.size ≤ 100 := (Classical.choose_spec (d395_ex c)).2

theorem d396_ex (c : XCur)  : ∃ r : (XVal) × XCur, Gw TT 396 [.ptr [.ro false (.sl 1 (c.b.map eb)), .ro false (di (c.i : Nat)), .ro false (di c.h)]] = some (.st [.ro false (di r.1.Ty), .ro false (di r.1.N), .ro false (.str r.1.S)], [(0, 0, .ro false (.sl 1 (r.2.b.map eb))), (0, 1, .ro false (di (r.2.i : Nat))), (0, 2, .ro false (di r.2.h))]) ∧ (r.1.S.size ≤ 100) := by
  suffices h0 : ∃ y, Gw TT 396 [.ptr [.ro false (.sl 1 (c.b.map eb)), .ro false (di (c.i : Nat)), .ro false (di c.h)]] = some y ∧ ∃ r : (XVal) × XCur, y = (.st [.ro false (di r.1.Ty), .ro false (di r.1.N), .ro false (.str r.1.S)], [(0, 0, .ro false (.sl 1 (r.2.b.map eb))), (0, 1, .ro false (di (r.2.i : Nat))), (0, 2, .ro false (di r.2.h))]) ∧ (r.1.S.size ≤ 100) by
    obtain ⟨y, h1, r, rfl, h2⟩ := h0
    exact ⟨r, h1, h2⟩
  refine Gw_ofE (F := pf396) rfl rfl ?_
  show Wp _ pb396 _ _
  unfold pb396
  have HL : ∀ e ∈ ([[.str ⟨#[]⟩], [.str ⟨#[97]⟩], [.str ⟨#[98]⟩], [.str ⟨#[97, 98]⟩], [.str ⟨#[114, 101, 100]⟩], [.str ⟨#[98, 108, 117, 101]⟩], [.str ⟨#[103, 114, 101, 101, 110]⟩], [.str ⟨#[122, 122, 122, 122, 122, 122]⟩]] : List (List D)), ∃ s : ByteArray, e = [.str s] ∧ s.size ≤ 100 := (by intro e he; simp only [List.mem_cons, List.not_mem_nil, or_false] at he; rcases he with rfl | rfl | rfl | rfl | rfl | rfl | rfl | rfl <;> exact ⟨_, rfl, by decide⟩)
  obtain ⟨r, gr, sr⟩ : ∃ r : ByteArray × XCur, Gw TT 385 [.ptr [.ro false (.sl 1 (c.b.map eb)), .ro false (di (c.i : Nat)), .ro false (di c.h)], .one (.ro true (.sl 1 [[.str ⟨#[]⟩], [.str ⟨#[97]⟩], [.str ⟨#[98]⟩], [.str ⟨#[97, 98]⟩], [.str ⟨#[114, 101, 100]⟩], [.str ⟨#[98, 108, 117, 101]⟩], [.str ⟨#[103, 114, 101, 101, 110]⟩], [.str ⟨#[122, 122, 122, 122, 122, 122]⟩]]))] = some (.one (.ro false (.str r.1)), [(0, 0, .ro false (.sl 1 (r.2.b.map eb))), (0, 1, .ro false (di (r.2.i : Nat))), (0, 2, .ro false (di r.2.h))]) ∧ r.1.size ≤ 100 := ⟨_, t385 c true [[.str ⟨#[]⟩], [.str ⟨#[97]⟩], [.str ⟨#[98]⟩], [.str ⟨#[97, 98]⟩], [.str ⟨#[114, 101, 100]⟩], [.str ⟨#[98, 108, 117, 101]⟩], [.str ⟨#[103, 114, 101, 101, 110]⟩], [.str ⟨#[122, 122, 122, 122, 122, 122]⟩]] (by simp) (by simp) HL, p385 c true [[.str ⟨#[]⟩], [.str ⟨#[97]⟩], [.str ⟨#[98]⟩], [.str ⟨#[97, 98]⟩], [.str ⟨#[114, 101, 100]⟩], [.str ⟨#[98, 108, 117, 101]⟩], [.str ⟨#[103, 114, 101, 101, 110]⟩], [.str ⟨#[122, 122, 122, 122, 122, 122]⟩]] (by simp) (by simp) HL⟩
  repeat' (first
    | with_reducible (first | refine wp_seq ?_ | refine wp_blk ?_ | refine wp_skip ?_ | refine wp_exit ?_ | refine wp_ret ?_ | refine seqQ_norm ?_ | refine seqQ_ret ?_ | refine seqQ_exit ?_ | refine blkQ_norm ?_ | refine blkQ_ret ?_ | refine blkQ_exit ?_ | refine loopQ_norm ?_ | refine loopQ_exit ?_ | refine loopQ_ret ?_ | refine endQ_ret ?_ | refine endQ_norm ?_ | refine endE_ret ?_ | refine endE_norm ?_ | refine endI_ret ?_ | refine endI_norm ?_)
    | (with_reducible refine wp_regK fun K hK => ?_
       simp[gr]
       repeat' (with_reducible first | refine hK _ ?_ | (refine psel ?_ ?_ <;> (intro hc; (try rw [Decidable.not_not] at hc); first | (exfalso; omega) | (try simp [hc, gr]))))
       all_goals (clear hK; clear K))
    | (with_reducible refine wp_condE ?_
       refine ⟨_, rfl, ?_, ?_⟩ <;> (intro hc; (try simp at hc); (all_goals first | (exfalso; omega) | skip))))
  all_goals (refine ⟨_, by simp [pf396]; rfl, ?_⟩; refine ⟨((⟨2, 0, r.1⟩ : XVal), r.2), ?_, ?_⟩; (focus (first | (simp; done) | (simp [*]; done))); (focus (exact sr)))

noncomputable def d396 (c : XCur)  : (XVal) × XCur := Classical.choose (d396_ex c)

@[simp] theorem t396 (c : XCur)  : Gw TT 396 [.ptr [.ro false (.sl 1 (c.b.map eb)), .ro false (di (c.i : Nat)), .ro false (di c.h)]] = some (.st [.ro false (di (d396 c).1.Ty), .ro false (di (d396 c).1.N), .ro false (.str (d396 c).1.S)], [(0, 0, .ro false (.sl 1 ((d396 c).2.b.map eb))), (0, 1, .ro false (di ((d396 c).2.i : Nat))), (0, 2, .ro false (di (d396 c).2.h))]) := (Classical.choose_spec (d396_ex c)).1

theorem p396 (c : XCur)  : (d396 c).1.S.size ≤ 100 := (Classical.choose_spec (d396_ex c)).2

theorem d399_ex (c : XCur)  : ∃ r : (List Int) × XCur, Gw TT 399 [.ptr [.ro false (.sl 1 (c.b.map eb)), .ro false (di (c.i : Nat)), .ro false (di c.h)]] = some (.one (.own (.sl 1 (r.1.map ei))), [(0, 0, .ro false (.sl 1 (r.2.b.map eb))), (0, 1, .ro false (di (r.2.i : Nat))), (0, 2, .ro false (di r.2.h))]) ∧ (1 ≤ r.1.length ∧ r.1.length ≤ 3) := by
  suffices h0 : ∃ y, Gw TT 399 [.ptr [.ro false (.sl 1 (c.b.map eb)), .ro false (di (c.i : Nat)), .ro false (di c.h)]] = some y ∧ ∃ r : (List Int) × XCur, y = (.one (.own (.sl 1 (r.1.map ei))), [(0, 0, .ro false (.sl 1 (r.2.b.map eb))), (0, 1, .ro false (di (r.2.i : Nat))), (0, 2, .ro false (di r.2.h))]) ∧ (1 ≤ r.1.length ∧ r.1.length ≤ 3) by
    obtain ⟨y, h1, r, rfl, h2⟩ := h0
    exact ⟨r, h1, h2⟩
  refine Gw_ofE (F := pf399) rfl rfl ?_
  show Wp _ pb399 _ _
  unfold pb399
  have q := p375 c 6
  obtain ⟨⟨v, c1⟩, hv⟩ : ∃ r, d375 c 6 = r := ⟨_, rfl⟩
  rw [hv] at q
  simp only at q
  have q2 := q.2.1 (by omega)
  rcases (by omega : v = 0 ∨ v = 1 ∨ v = 2 ∨ v = 3 ∨ v = 4 ∨ v = 5) with rfl | rfl | rfl | rfl | rfl | rfl
  · repeat' (first
      | with_reducible (first | refine wp_seq ?_ | refine wp_blk ?_ | refine wp_skip ?_ | refine wp_exit ?_ | refine wp_ret ?_ | refine seqQ_norm ?_ | refine seqQ_ret ?_ | refine seqQ_exit ?_ | refine blkQ_norm ?_ | refine blkQ_ret ?_ | refine blkQ_exit ?_ | refine loopQ_norm ?_ | refine loopQ_exit ?_ | refine loopQ_ret ?_ | refine endQ_ret ?_ | refine endQ_norm ?_ | refine endE_ret ?_ | refine endE_norm ?_ | refine endI_ret ?_ | refine endI_norm ?_)
      | (with_reducible refine wp_regK fun K hK => ?_
         simp[hv]
         repeat' (with_reducible first | refine hK _ ?_ | (refine psel ?_ ?_ <;> (intro hc; (try rw [Decidable.not_not] at hc); first | (exfalso; omega) | (try simp [hc, hv]))))
         all_goals (clear hK; clear K))
      | (with_reducible refine wp_condE ?_
         refine ⟨_, rfl, ?_, ?_⟩ <;> (intro hc; (try simp at hc); (all_goals first | (exfalso; omega) | skip))))
    all_goals (refine ⟨_, by simp [pf399]; rfl, ?_⟩; refine ⟨(([1] : List Int), c1), ?_, ?_, ?_⟩; (focus (first | (simp; done) | (simp [*]; done))); (focus (simp)); (focus (simp)))
  · repeat' (first
      | with_reducible (first | refine wp_seq ?_ | refine wp_blk ?_ | refine wp_skip ?_ | refine wp_exit ?_ | refine wp_ret ?_ | refine seqQ_norm ?_ | refine seqQ_ret ?_ | refine seqQ_exit ?_ | refine blkQ_norm ?_ | refine blkQ_ret ?_ | refine blkQ_exit ?_ | refine loopQ_norm ?_ | refine loopQ_exit ?_ | refine loopQ_ret ?_ | refine endQ_ret ?_ | refine endQ_norm ?_ | refine endE_ret ?_ | refine endE_norm ?_ | refine endI_ret ?_ | refine endI_norm ?_)
      | (with_reducible refine wp_regK fun K hK => ?_
         simp[hv]
         repeat' (with_reducible first | refine hK _ ?_ | (refine psel ?_ ?_ <;> (intro hc; (try rw [Decidable.not_not] at hc); first | (exfalso; omega) | (try simp [hc, hv]))))
         all_goals (clear hK; clear K))
      | (with_reducible refine wp_condE ?_
         refine ⟨_, rfl, ?_, ?_⟩ <;> (intro hc; (try simp at hc); (all_goals first | (exfalso; omega) | skip))))
    all_goals (refine ⟨_, by simp [pf399]; rfl, ?_⟩; refine ⟨(([2] : List Int), c1), ?_, ?_, ?_⟩; (focus (first | (simp; done) | (simp [*]; done))); (focus (simp)); (focus (simp)))
  · repeat' (first
      | with_reducible (first | refine wp_seq ?_ | refine wp_blk ?_ | refine wp_skip ?_ | refine wp_exit ?_ | refine wp_ret ?_ | refine seqQ_norm ?_ | refine seqQ_ret ?_ | refine seqQ_exit ?_ | refine blkQ_norm ?_ | refine blkQ_ret ?_ | refine blkQ_exit ?_ | refine loopQ_norm ?_ | refine loopQ_exit ?_ | refine loopQ_ret ?_ | refine endQ_ret ?_ | refine endQ_norm ?_ | refine endE_ret ?_ | refine endE_norm ?_ | refine endI_ret ?_ | refine endI_norm ?_)
      | (with_reducible refine wp_regK fun K hK => ?_
         simp[hv]
         repeat' (with_reducible first | refine hK _ ?_ | (refine psel ?_ ?_ <;> (intro hc; (try rw [Decidable.not_not] at hc); first | (exfalso; omega) | (try simp [hc, hv]))))
         all_goals (clear hK; clear K))
      | (with_reducible refine wp_condE ?_
         refine ⟨_, rfl, ?_, ?_⟩ <;> (intro hc; (try simp at hc); (all_goals first | (exfalso; omega) | skip))))
    all_goals (refine ⟨_, by simp [pf399]; rfl, ?_⟩; refine ⟨(([1, 2] : List Int), c1), ?_, ?_, ?_⟩; (focus (first | (simp; done) | (simp [*]; done))); (focus (simp)); (focus (simp)))
  · repeat' (first
      | with_reducible (first | refine wp_seq ?_ | refine wp_blk ?_ | refine wp_skip ?_ | refine wp_exit ?_ | refine wp_ret ?_ | refine seqQ_norm ?_ | refine seqQ_ret ?_ | refine seqQ_exit ?_ | refine blkQ_norm ?_ | refine blkQ_ret ?_ | refine blkQ_exit ?_ | refine loopQ_norm ?_ | refine loopQ_exit ?_ | refine loopQ_ret ?_ | refine endQ_ret ?_ | refine endQ_norm ?_ | refine endE_ret ?_ | refine endE_norm ?_ | refine endI_ret ?_ | refine endI_norm ?_)
      | (with_reducible refine wp_regK fun K hK => ?_
         simp[hv]
         repeat' (with_reducible first | refine hK _ ?_ | (refine psel ?_ ?_ <;> (intro hc; (try rw [Decidable.not_not] at hc); first | (exfalso; omega) | (try simp [hc, hv]))))
         all_goals (clear hK; clear K))
      | (with_reducible refine wp_condE ?_
         refine ⟨_, rfl, ?_, ?_⟩ <;> (intro hc; (try simp at hc); (all_goals first | (exfalso; omega) | skip))))
    all_goals (refine ⟨_, by simp [pf399]; rfl, ?_⟩; refine ⟨(([1, 1] : List Int), c1), ?_, ?_, ?_⟩; (focus (first | (simp; done) | (simp [*]; done))); (focus (simp)); (focus (simp)))
  · repeat' (first
      | with_reducible (first | refine wp_seq ?_ | refine wp_blk ?_ | refine wp_skip ?_ | refine wp_exit ?_ | refine wp_ret ?_ | refine seqQ_norm ?_ | refine seqQ_ret ?_ | refine seqQ_exit ?_ | refine blkQ_norm ?_ | refine blkQ_ret ?_ | refine blkQ_exit ?_ | refine loopQ_norm ?_ | refine loopQ_exit ?_ | refine loopQ_ret ?_ | refine endQ_ret ?_ | refine endQ_norm ?_ | refine endE_ret ?_ | refine endE_norm ?_ | refine endI_ret ?_ | refine endI_norm ?_)
      | (with_reducible refine wp_regK fun K hK => ?_
         simp[hv]
         repeat' (with_reducible first | refine hK _ ?_ | (refine psel ?_ ?_ <;> (intro hc; (try rw [Decidable.not_not] at hc); first | (exfalso; omega) | (try simp [hc, hv]))))
         all_goals (clear hK; clear K))
      | (with_reducible refine wp_condE ?_
         refine ⟨_, rfl, ?_, ?_⟩ <;> (intro hc; (try simp at hc); (all_goals first | (exfalso; omega) | skip))))
    all_goals (refine ⟨_, by simp [pf399]; rfl, ?_⟩; refine ⟨(([2, 1] : List Int), c1), ?_, ?_, ?_⟩; (focus (first | (simp; done) | (simp [*]; done))); (focus (simp)); (focus (simp)))
  · repeat' (first
      | with_reducible (first | refine wp_seq ?_ | refine wp_blk ?_ | refine wp_skip ?_ | refine wp_exit ?_ | refine wp_ret ?_ | refine seqQ_norm ?_ | refine seqQ_ret ?_ | refine seqQ_exit ?_ | refine blkQ_norm ?_ | refine blkQ_ret ?_ | refine blkQ_exit ?_ | refine loopQ_norm ?_ | refine loopQ_exit ?_ | refine loopQ_ret ?_ | refine endQ_ret ?_ | refine endQ_norm ?_ | refine endE_ret ?_ | refine endE_norm ?_ | refine endI_ret ?_ | refine endI_norm ?_)
      | (with_reducible refine wp_regK fun K hK => ?_
         simp[hv]
         repeat' (with_reducible first | refine hK _ ?_ | (refine psel ?_ ?_ <;> (intro hc; (try rw [Decidable.not_not] at hc); first | (exfalso; omega) | (try simp [hc, hv]))))
         all_goals (clear hK; clear K))
      | (with_reducible refine wp_condE ?_
         refine ⟨_, rfl, ?_, ?_⟩ <;> (intro hc; (try simp at hc); (all_goals first | (exfalso; omega) | skip))))
    all_goals (refine ⟨_, by simp [pf399]; rfl, ?_⟩; refine ⟨(([1, 2, 1] : List Int), c1), ?_, ?_, ?_⟩; (focus (first | (simp; done) | (simp [*]; done))); (focus (simp)); (focus (simp)))

noncomputable def d399 (c : XCur)  : (List Int) × XCur := Classical.choose (d399_ex c)

@[simp] theorem t399 (c : XCur)  : Gw TT 399 [.ptr [.ro false (.sl 1 (c.b.map eb)), .ro false (di (c.i : Nat)), .ro false (di c.h)]] = some (.one (.own (.sl 1 ((d399 c).1.map ei))), [(0, 0, .ro false (.sl 1 ((d399 c).2.b.map eb))), (0, 1, .ro false (di ((d399 c).2.i : Nat))), (0, 2, .ro false (di (d399 c).2.h))]) := (Classical.choose_spec (d399_ex c)).1

theorem p399 (c : XCur)  : 1 ≤ (d399 c).1.length ∧ (d399 c).1.length ≤ 3 := (Classical.choose_spec (d399_ex c)).2

theorem d401_ex (c : XCur) (k0 : Bool) (cols : List Int) (h : cols.length ≤ 1000) : ∃ r : (List XVal) × XCur, Gw TT 401 [.ptr [.ro false (.sl 1 (c.b.map eb)), .ro false (di (c.i : Nat)), .ro false (di c.h)], .one (.ro k0 (.sl 1 (cols.map ei)))] = some (.one (.own (.sl 3 (r.1.map XVal.e))), [(0, 0, .ro false (.sl 1 (r.2.b.map eb))), (0, 1, .ro false (di (r.2.i : Nat))), (0, 2, .ro false (di r.2.h))]) ∧ (r.1.length ≤ 1000 ∧ XVal.sms r.1) := by
  suffices h0 : ∃ y, Gw TT 401 [.ptr [.ro false (.sl 1 (c.b.map eb)), .ro false (di (c.i : Nat)), .ro false (di c.h)], .one (.ro k0 (.sl 1 (cols.map ei)))] = some y ∧ ∃ r : (List XVal) × XCur, y = (.one (.own (.sl 3 (r.1.map XVal.e))), [(0, 0, .ro false (.sl 1 (r.2.b.map eb))), (0, 1, .ro false (di (r.2.i : Nat))), (0, 2, .ro false (di r.2.h))]) ∧ (r.1.length ≤ 1000 ∧ XVal.sms r.1) by
    obtain ⟨y, h1, r, rfl, h2⟩ := h0
    exact ⟨r, h1, h2⟩
  refine Gw_ofE (F := pf401) rfl rfl ?_
  show Wp _ pb401 _ _
  unfold pb401
  repeat' (first
    | with_reducible (first | refine wp_seq ?_ | refine wp_blk ?_ | refine wp_skip ?_ | refine wp_exit ?_ | refine wp_ret ?_ | refine seqQ_norm ?_ | refine seqQ_ret ?_ | refine seqQ_exit ?_ | refine blkQ_norm ?_ | refine blkQ_ret ?_ | refine blkQ_exit ?_ | refine loopQ_norm ?_ | refine loopQ_exit ?_ | refine loopQ_ret ?_ | refine endQ_ret ?_ | refine endQ_norm ?_ | refine endE_ret ?_ | refine endE_norm ?_ | refine endI_ret ?_ | refine endI_norm ?_)
    | (with_reducible refine wp_regK fun K hK => ?_
       simp
       repeat' (with_reducible first | refine hK _ ?_ | (refine psel ?_ ?_ <;> (intro hc; (try rw [Decidable.not_not] at hc); first | (exfalso; omega) | (try simp [hc]))))
       all_goals (clear hK; clear K))
    | (with_reducible refine wp_condE ?_
       refine ⟨_, rfl, ?_, ?_⟩ <;> (intro hc; (try simp at hc); (all_goals first | (exfalso; omega) | skip))))
  refine wp_loopI (σ := List Int × List Int × List XVal × XCur) (fun s => [(0, AV.bx 0 0, some (Rt.bx [.ro false (.sl 1 (s.2.2.2.b.map eb)), .ro false (di (s.2.2.2.i : Nat)), .ro false (di s.2.2.2.h)])), (1, AV.v k0 (D.sl 1 (cols.map ei)), none), (5, AV.pl 5 0 [], some (Rt.vir [C.own (D.sl 3 (s.2.2.1.map XVal.e))])), (6, AV.v false (di ((s.1.length : Nat) : Int)), none)]) (fun s => cols = s.1 ++ s.2.1 ∧ s.2.2.1.length = s.1.length ∧ XVal.sms s.2.2.1) (fun s => s.2.1.length) ([], cols, [], c) (by simp) ⟨rfl, rfl, fun y hy => by simp at hy⟩ ?_
  rintro ⟨pre, rest, acc, c1⟩ ⟨h1, h2, h3⟩
  simp only at h1 h2 h3
  subst h1
  simp only [List.length_append, List.length_cons] at h
  rcases rest with _ | ⟨d, rest⟩
  · unfold pl401_0
    repeat' (first
      | with_reducible (first | refine wp_seq ?_ | refine wp_blk ?_ | refine wp_skip ?_ | refine wp_exit ?_ | refine wp_ret ?_ | refine seqQ_norm ?_ | refine seqQ_ret ?_ | refine seqQ_exit ?_ | refine blkQ_norm ?_ | refine blkQ_ret ?_ | refine blkQ_exit ?_ | refine loopQ_norm ?_ | refine loopQ_exit ?_ | refine loopQ_ret ?_ | refine endQ_ret ?_ | refine endQ_norm ?_ | refine endE_ret ?_ | refine endE_norm ?_ | refine endI_ret ?_ | refine endI_norm ?_)
      | (with_reducible refine wp_regK fun K hK => ?_
         simp
         repeat' (with_reducible first | refine hK _ ?_ | (refine psel ?_ ?_ <;> (intro hc; (try rw [Decidable.not_not] at hc); first | (exfalso; omega) | (try simp [hc]))))
         all_goals (clear hK; clear K))
      | (with_reducible refine wp_condE ?_
         refine ⟨_, rfl, ?_, ?_⟩ <;> (intro hc; (try simp at hc); (all_goals first | (exfalso; omega) | skip))))
    all_goals first | (exfalso; omega) | (refine ⟨_, by simp [pf401]; rfl, ?_⟩; refine ⟨(acc, c1), ?_, ?_, ?_⟩; (focus (first | (simp; done) | (simp [*]; done))); (focus (simp only; simp only [List.length_nil] at h; omega)); (focus (exact h3)))
  · unfold pl401_0
    simp only [List.length_cons] at h
    have hw : IntKind.wrap .i64 ((pre.length : Int) + 1) = (pre.length : Int) + 1 := wrap_i64 (by omega) (by omega)
    have hq1 : (acc.length + 1) * 32 ≤ 70368744177664 := by omega
    have a1 : XVal.sms (acc ++ [(d395 c1).1]) := fun y hy => by
      rcases List.mem_append.1 hy with hy | hy
      · exact h3 y hy
      · rw [List.mem_singleton.1 hy]; have := p395 c1; simp only [XVal.sm]; omega
    have a2 : XVal.sms (acc ++ [(d396 c1).1]) := fun y hy => by
      rcases List.mem_append.1 hy with hy | hy
      · exact h3 y hy
      · rw [List.mem_singleton.1 hy]; have := p396 c1; simp only [XVal.sm]; omega
    by_cases e : d = 1
    · repeat' (first
        | with_reducible (first | refine wp_seq ?_ | refine wp_blk ?_ | refine wp_skip ?_ | refine wp_exit ?_ | refine wp_ret ?_ | refine seqQ_norm ?_ | refine seqQ_ret ?_ | refine seqQ_exit ?_ | refine blkQ_norm ?_ | refine blkQ_ret ?_ | refine blkQ_exit ?_ | refine loopQ_norm ?_ | refine loopQ_exit ?_ | refine loopQ_ret ?_ | refine endQ_ret ?_ | refine endQ_norm ?_ | refine endE_ret ?_ | refine endE_norm ?_ | refine endI_ret ?_ | refine endI_norm ?_)
        | (with_reducible refine wp_regK fun K hK => ?_
           simp[hw, hq1, e]
           repeat' (with_reducible first | refine hK _ ?_ | (refine psel ?_ ?_ <;> (intro hc; (try rw [Decidable.not_not] at hc); first | (exfalso; omega) | (try simp [hc, hw, hq1, e]))))
           all_goals (clear hK; clear K))
        | (with_reducible refine wp_condE ?_
           refine ⟨_, rfl, ?_, ?_⟩ <;> (intro hc; (try simp at hc); (all_goals first | (exfalso; omega) | skip))))
      all_goals first | (exfalso; omega) | exact ⟨(pre ++ [d], rest, acc ++ [(d395 c1).1], (d395 c1).2), by simp [e], ⟨by simp, by simp [h2], a1⟩, by simp⟩ | skip
    · repeat' (first
        | with_reducible (first | refine wp_seq ?_ | refine wp_blk ?_ | refine wp_skip ?_ | refine wp_exit ?_ | refine wp_ret ?_ | refine seqQ_norm ?_ | refine seqQ_ret ?_ | refine seqQ_exit ?_ | refine blkQ_norm ?_ | refine blkQ_ret ?_ | refine blkQ_exit ?_ | refine loopQ_norm ?_ | refine loopQ_exit ?_ | refine loopQ_ret ?_ | refine endQ_ret ?_ | refine endQ_norm ?_ | refine endE_ret ?_ | refine endE_norm ?_ | refine endI_ret ?_ | refine endI_norm ?_)
        | (with_reducible refine wp_regK fun K hK => ?_
           simp[hw, hq1, e]
           repeat' (with_reducible first | refine hK _ ?_ | (refine psel ?_ ?_ <;> (intro hc; (try rw [Decidable.not_not] at hc); first | (exfalso; omega) | (try simp [hc, hw, hq1, e]))))
           all_goals (clear hK; clear K))
        | (with_reducible refine wp_condE ?_
           refine ⟨_, rfl, ?_, ?_⟩ <;> (intro hc; (try simp at hc); (all_goals first | (exfalso; omega) | skip))))
      all_goals first | (exfalso; omega) | exact ⟨(pre ++ [d], rest, acc ++ [(d396 c1).1], (d396 c1).2), by simp, ⟨by simp, by simp [h2], a2⟩, by simp⟩ | skip

noncomputable def d401 (c : XCur) (k0 : Bool) (cols : List Int) (h : cols.length ≤ 1000) : (List XVal) × XCur := Classical.choose (d401_ex c k0 cols h)

@[simp] theorem t401 (c : XCur) (k0 : Bool) (cols : List Int) (h : cols.length ≤ 1000) : Gw TT 401 [.ptr [.ro false (.sl 1 (c.b.map eb)), .ro false (di (c.i : Nat)), .ro false (di c.h)], .one (.ro k0 (.sl 1 (cols.map ei)))] = some (.one (.own (.sl 3 ((d401 c k0 cols h).1.map XVal.e))), [(0, 0, .ro false (.sl 1 ((d401 c k0 cols h).2.b.map eb))), (0, 1, .ro false (di ((d401 c k0 cols h).2.i : Nat))), (0, 2, .ro false (di (d401 c k0 cols h).2.h))]) := (Classical.choose_spec (d401_ex c k0 cols h)).1

theorem p401 (c : XCur) (k0 : Bool) (cols : List Int) (h : cols.length ≤ 1000) : (d401 c k0 cols h).1.length ≤ 1000 ∧ XVal.sms (d401 c k0 cols h).1 := (Classical.choose_spec (d401_ex c k0 cols h)).2

@[simp] theorem t209 (k0 k1 : Bool) (l : List XVal) (h : l.length ≤ 1048576) : Gw TT 209 [.one (.ro k0 (.sl 3 (l.map XVal.e))), .one (.ro k1 (.sl 3 (l.map XVal.e)))] = some (vb true, []) := by
  refine Gw_of (F := pf209) rfl rfl ?_
  show Wp _ pb209 _ _
  unfold pb209
  repeat' (first
    | with_reducible (first | refine wp_seq ?_ | refine wp_blk ?_ | refine wp_skip ?_ | refine wp_exit ?_ | refine wp_ret ?_ | refine seqQ_norm ?_ | refine seqQ_ret ?_ | refine seqQ_exit ?_ | refine blkQ_norm ?_ | refine blkQ_ret ?_ | refine blkQ_exit ?_ | refine loopQ_norm ?_ | refine loopQ_exit ?_ | refine loopQ_ret ?_ | refine endQ_ret ?_ | refine endQ_norm ?_ | refine endE_ret ?_ | refine endE_norm ?_ | refine endI_ret ?_ | refine endI_norm ?_)
    | (with_reducible refine wp_regK fun K hK => ?_
       simp
       repeat' (with_reducible first | refine hK _ ?_ | (refine psel ?_ ?_ <;> (intro hc; (try rw [Decidable.not_not] at hc); first | (exfalso; omega) | (try simp [hc]))))
       all_goals (clear hK; clear K))
    | (with_reducible refine wp_condE ?_
       refine ⟨_, rfl, ?_, ?_⟩ <;> (intro hc; (try simp at hc); (all_goals first | (exfalso; omega) | skip))))
  refine wp_loopI (σ := List XVal × List XVal) (fun s => [(0, AV.v k0 (D.sl 3 (l.map XVal.e)), none), (1, AV.v k1 (D.sl 3 (l.map XVal.e)), none), (5, AV.v false (di ((s.1.length : Nat) : Int)), none)]) (fun s => l = s.1 ++ s.2) (fun s => s.2.length) ([], l) (by simp) rfl ?_
  rintro ⟨pre, rest⟩ h1
  simp only at h1
  subst h1
  simp only [List.length_append, List.length_cons] at h
  rcases rest with _ | ⟨d, rest⟩
  · unfold pl209_0
    repeat' (first
      | with_reducible (first | refine wp_seq ?_ | refine wp_blk ?_ | refine wp_skip ?_ | refine wp_exit ?_ | refine wp_ret ?_ | refine seqQ_norm ?_ | refine seqQ_ret ?_ | refine seqQ_exit ?_ | refine blkQ_norm ?_ | refine blkQ_ret ?_ | refine blkQ_exit ?_ | refine loopQ_norm ?_ | refine loopQ_exit ?_ | refine loopQ_ret ?_ | refine endQ_ret ?_ | refine endQ_norm ?_ | refine endE_ret ?_ | refine endE_norm ?_ | refine endI_ret ?_ | refine endI_norm ?_)
      | (with_reducible refine wp_regK fun K hK => ?_
         simp
         repeat' (with_reducible first | refine hK _ ?_ | (refine psel ?_ ?_ <;> (intro hc; (try rw [Decidable.not_not] at hc); first | (exfalso; omega) | (try simp [hc]))))
         all_goals (clear hK; clear K))
      | (with_reducible refine wp_condE ?_
         refine ⟨_, rfl, ?_, ?_⟩ <;> (intro hc; (try simp at hc); (all_goals first | (exfalso; omega) | skip))))
    all_goals first | (simp [pf209]; done) | (exfalso; omega)
  · unfold pl209_0
    simp only [List.length_cons] at h
    have hw : IntKind.wrap .i64 ((pre.length : Int) + 1) = (pre.length : Int) + 1 := wrap_i64 (by omega) (by omega)
    repeat' (first
      | with_reducible (first | refine wp_seq ?_ | refine wp_blk ?_ | refine wp_skip ?_ | refine wp_exit ?_ | refine wp_ret ?_ | refine seqQ_norm ?_ | refine seqQ_ret ?_ | refine seqQ_exit ?_ | refine blkQ_norm ?_ | refine blkQ_ret ?_ | refine blkQ_exit ?_ | refine loopQ_norm ?_ | refine loopQ_exit ?_ | refine loopQ_ret ?_ | refine endQ_ret ?_ | refine endQ_norm ?_ | refine endE_ret ?_ | refine endE_norm ?_ | refine endI_ret ?_ | refine endI_norm ?_)
      | (with_reducible refine wp_regK fun K hK => ?_
         simp[hw]
         repeat' (with_reducible first | refine hK _ ?_ | (refine psel ?_ ?_ <;> (intro hc; (try rw [Decidable.not_not] at hc); first | (exfalso; omega) | (try simp [hc, hw]))))
         all_goals (clear hK; clear K))
      | (with_reducible refine wp_condE ?_
         refine ⟨_, rfl, ?_, ?_⟩ <;> (intro hc; (try simp at hc); (all_goals first | (exfalso; omega) | skip))))
    all_goals first | exact ⟨(pre ++ [d], rest), by simp, by simp, by simp⟩ | (exfalso; omega)

theorem bl_loop (bs : ByteArray) : ∀ (k i : Nat) (r : List UInt8), bs.size - i = k → (ByteArray.toList.loop bs i r).length = k + r.length
  | 0, i, r, h => by
    rw [ByteArray.toList.loop, if_neg (by omega)]; simp
  | k + 1, i, r, h => by
    rw [ByteArray.toList.loop, if_pos (by omega), bl_loop bs k (i + 1) _ (by omega)]; simp; omega

theorem bl_len (bs : ByteArray) : bs.toList.length = bs.size := by
  unfold ByteArray.toList
  rw [bl_loop bs bs.size 0 [] (by omega)]; simp

def okc (b : UInt8) : Bool := decide ((97 ≤ b.toNat ∧ b.toNat ≤ 122) ∨ (48 ≤ b.toNat ∧ b.toNat ≤ 57))

def textB : List UInt8 → Bool
  | [] => true
  | b :: l => if okc b = true then textB l else false

def numB (n : Int) : Bool := decide (-1000000000 ≤ n) && decide (n ≤ 1000000000)

def valOkF (ty n : Int) (s : ByteArray) : Bool := if ty = 1 then numB n && (s.toList == (⟨#[]⟩ : ByteArray).toList) else (decide (ty = 2) && (decide (n = 0) && (decide (s.size ≤ 6) && textB s.toList)))

@[simp] theorem t384 (n : Int) : Gw TT 384 [vi n] = some (vb (numB n), []) := by
  refine Gw_of (F := pf384) rfl rfl ?_
  show Wp _ pb384 _ _
  unfold pb384
  repeat' (first
    | with_reducible (first | refine wp_seq ?_ | refine wp_blk ?_ | refine wp_skip ?_ | refine wp_exit ?_ | refine wp_ret ?_ | refine seqQ_norm ?_ | refine seqQ_ret ?_ | refine seqQ_exit ?_ | refine blkQ_norm ?_ | refine blkQ_ret ?_ | refine blkQ_exit ?_ | refine loopQ_norm ?_ | refine loopQ_exit ?_ | refine loopQ_ret ?_ | refine endQ_ret ?_ | refine endQ_norm ?_ | refine endE_ret ?_ | refine endE_norm ?_ | refine endI_ret ?_ | refine endI_norm ?_)
    | (with_reducible refine wp_regK fun K hK => ?_
       simp
       repeat' (with_reducible first | refine hK _ ?_ | (refine psel ?_ ?_ <;> (intro hc; (try rw [Decidable.not_not] at hc); first | (exfalso; omega) | (try simp [hc]))))
       all_goals (clear hK; clear K))
    | (with_reducible refine wp_condE ?_
       refine ⟨_, rfl, ?_, ?_⟩ <;> (intro hc; (try simp at hc); (all_goals first | (exfalso; omega) | skip))))
  all_goals first | (simp [pf384, numB]; done) | (simp_all [pf384, numB]; done)

@[simp] theorem t341 (x_Ty : Int) (x_N : Int) (x_S : ByteArray) (h : x_S.size ≤ 1048576) : Gw TT 341 [.st [.ro false (di x_Ty), .ro false (di x_N), .ro false (.str x_S)]] = some (vb (valOkF x_Ty x_N x_S), []) := by
  refine Gw_of (F := pf341) rfl rfl ?_
  show Wp _ pb341 _ _
  unfold pb341
  by_cases u1 : x_Ty = 1
  · repeat' (first
      | with_reducible (first | refine wp_seq ?_ | refine wp_blk ?_ | refine wp_skip ?_ | refine wp_exit ?_ | refine wp_ret ?_ | refine seqQ_norm ?_ | refine seqQ_ret ?_ | refine seqQ_exit ?_ | refine blkQ_norm ?_ | refine blkQ_ret ?_ | refine blkQ_exit ?_ | refine loopQ_norm ?_ | refine loopQ_exit ?_ | refine loopQ_ret ?_ | refine endQ_ret ?_ | refine endQ_norm ?_ | refine endE_ret ?_ | refine endE_norm ?_ | refine endI_ret ?_ | refine endI_norm ?_)
      | (with_reducible refine wp_regK fun K hK => ?_
         simp[u1]
         repeat' (with_reducible first | refine hK _ ?_ | (refine psel ?_ ?_ <;> (intro hc; (try rw [Decidable.not_not] at hc); first | (exfalso; omega) | (try simp [hc, u1]))))
         all_goals (clear hK; clear K))
      | (with_reducible refine wp_condE ?_
         refine ⟨_, rfl, ?_, ?_⟩ <;> (intro hc; (try simp at hc); (all_goals first | (exfalso; omega) | skip))))
    all_goals first | (simp [pf341, valOkF, u1]; done) | (simp_all [pf341, valOkF]; done)
  · repeat' (first
      | with_reducible (first | refine wp_seq ?_ | refine wp_blk ?_ | refine wp_skip ?_ | refine wp_exit ?_ | refine wp_ret ?_ | refine seqQ_norm ?_ | refine seqQ_ret ?_ | refine seqQ_exit ?_ | refine blkQ_norm ?_ | refine blkQ_ret ?_ | refine blkQ_exit ?_ | refine loopQ_norm ?_ | refine loopQ_exit ?_ | refine loopQ_ret ?_ | refine endQ_ret ?_ | refine endQ_norm ?_ | refine endE_ret ?_ | refine endE_norm ?_ | refine endI_ret ?_ | refine endI_norm ?_)
      | (with_reducible refine wp_regK fun K hK => ?_
         simp[u1]
         repeat' (with_reducible first | refine hK _ ?_ | (refine psel ?_ ?_ <;> (intro hc; (try rw [Decidable.not_not] at hc); first | (exfalso; omega) | (try simp [hc, u1]))))
         all_goals (clear hK; clear K))
      | (with_reducible refine wp_condE ?_
         refine ⟨_, rfl, ?_, ?_⟩ <;> (intro hc; (try simp at hc); (all_goals first | (exfalso; omega) | skip))))
    refine wp_loopI (σ := List UInt8 × List UInt8) (fun s => [(1, AV.bx 1 0, some (Rt.bx [.ro false (di x_Ty), .ro false (di x_N), .ro false (.str x_S)])), (3, AV.v false (di ((s.1.length : Nat) : Int)), none)]) (fun s => x_S.toList = s.1 ++ s.2 ∧ textB s.2 = textB x_S.toList) (fun s => s.2.length) ([], x_S.toList) (by simp ) ⟨rfl, rfl⟩ ?_
    rintro ⟨pre, rest⟩ ⟨h1, h2⟩
    simp only at h1 h2
    have hl := bl_len x_S
    rw [h1, List.length_append] at hl
    rcases rest with _ | ⟨d, rest⟩
    · simp only [List.length_nil] at hl
      simp only [textB] at h2
      have hsz : (x_S.size : Int) = (pre.length : Int) := by omega
      unfold pl341_0
      by_cases q1 : pre.length ≤ 6
      · have q2 : x_S.size ≤ 6 := by omega
        have q3 : (pre.length : Int) ≤ 6 := by omega
        repeat' (first
          | with_reducible (first | refine wp_seq ?_ | refine wp_blk ?_ | refine wp_skip ?_ | refine wp_exit ?_ | refine wp_ret ?_ | refine seqQ_norm ?_ | refine seqQ_ret ?_ | refine seqQ_exit ?_ | refine blkQ_norm ?_ | refine blkQ_ret ?_ | refine blkQ_exit ?_ | refine loopQ_norm ?_ | refine loopQ_exit ?_ | refine loopQ_ret ?_ | refine endQ_ret ?_ | refine endQ_norm ?_ | refine endE_ret ?_ | refine endE_norm ?_ | refine endI_ret ?_ | refine endI_norm ?_)
          | (with_reducible refine wp_regK fun K hK => ?_
             simp[hsz, q1, q2, q3]
             repeat' (with_reducible first | refine hK _ ?_ | (refine psel ?_ ?_ <;> (intro hc; (try rw [Decidable.not_not] at hc); first | (exfalso; omega) | (try simp [hc, hsz, q1, q2, q3]))))
             all_goals (clear hK; clear K))
          | (with_reducible refine wp_condE ?_
             refine ⟨_, rfl, ?_, ?_⟩ <;> (intro hc; (try simp at hc); (all_goals first | (exfalso; omega) | skip))))
        all_goals first | (simp_all [pf341, valOkF]; done) | (by_cases z : x_N = 0 <;> simp_all [pf341, valOkF]; done) | (exfalso; omega) | skip
      · have q2 : ¬ x_S.size ≤ 6 := by omega
        have q3 : ¬ (pre.length : Int) ≤ 6 := by omega
        repeat' (first
          | with_reducible (first | refine wp_seq ?_ | refine wp_blk ?_ | refine wp_skip ?_ | refine wp_exit ?_ | refine wp_ret ?_ | refine seqQ_norm ?_ | refine seqQ_ret ?_ | refine seqQ_exit ?_ | refine blkQ_norm ?_ | refine blkQ_ret ?_ | refine blkQ_exit ?_ | refine loopQ_norm ?_ | refine loopQ_exit ?_ | refine loopQ_ret ?_ | refine endQ_ret ?_ | refine endQ_norm ?_ | refine endE_ret ?_ | refine endE_norm ?_ | refine endI_ret ?_ | refine endI_norm ?_)
          | (with_reducible refine wp_regK fun K hK => ?_
             simp[hsz, q1, q2, q3]
             repeat' (with_reducible first | refine hK _ ?_ | (refine psel ?_ ?_ <;> (intro hc; (try rw [Decidable.not_not] at hc); first | (exfalso; omega) | (try simp [hc, hsz, q1, q2, q3]))))
             all_goals (clear hK; clear K))
          | (with_reducible refine wp_condE ?_
             refine ⟨_, rfl, ?_, ?_⟩ <;> (intro hc; (try simp at hc); (all_goals first | (exfalso; omega) | skip))))
        all_goals first | (simp_all [pf341, valOkF]; done) | (by_cases z : x_N = 0 <;> simp_all [pf341, valOkF]; done) | (exfalso; omega) | skip
    · simp only [List.length_cons] at hl
      simp only [textB] at h2
      have hg : x_S.toList[pre.length]? = some d := by rw [h1]; simp
      have hlt : (pre.length : Int) < (x_S.size : Int) := by omega
      have hlt2 : pre.length < x_S.size := by omega
      have hw : IntKind.wrap .i64 ((pre.length : Int) + 1) = (pre.length : Int) + 1 := wrap_i64 (by omega) (by omega)
      have hwd : IntKind.wrap .i64 (d.toNat : Int) = (d.toNat : Int) := wrap_i64 (by omega) (by have := d.toNat_lt; omega)
      unfold pl341_0
      by_cases q1 : pre.length ≤ 6
      · have q3 : (pre.length : Int) ≤ 6 := by omega
        by_cases o : okc d = true
        · rw [if_pos o] at h2
          simp only [okc, decide_eq_true_eq] at o
          repeat' (first
            | with_reducible (first | refine wp_seq ?_ | refine wp_blk ?_ | refine wp_skip ?_ | refine wp_exit ?_ | refine wp_ret ?_ | refine seqQ_norm ?_ | refine seqQ_ret ?_ | refine seqQ_exit ?_ | refine blkQ_norm ?_ | refine blkQ_ret ?_ | refine blkQ_exit ?_ | refine loopQ_norm ?_ | refine loopQ_exit ?_ | refine loopQ_ret ?_ | refine endQ_ret ?_ | refine endQ_norm ?_ | refine endE_ret ?_ | refine endE_norm ?_ | refine endI_ret ?_ | refine endI_norm ?_)
            | (with_reducible refine wp_regK fun K hK => ?_
               simp[hg, hlt, hlt2, hw, hwd, q1, q3]
               repeat' (with_reducible first | refine hK _ ?_ | (refine psel ?_ ?_ <;> (intro hc; (try rw [Decidable.not_not] at hc); first | (exfalso; omega) | (try simp [hc, hg, hlt, hlt2, hw, hwd, q1, q3]))))
               all_goals (clear hK; clear K))
            | (with_reducible refine wp_condE ?_
               refine ⟨_, rfl, ?_, ?_⟩ <;> (intro hc; (try simp at hc); (all_goals first | (exfalso; omega) | skip))))
          all_goals first | exact ⟨(pre ++ [d], rest), by simp, ⟨by rw [h1]; simp, h2⟩, by simp⟩ | (exfalso; omega) | skip
        · rw [if_neg o] at h2
          have o2 := o
          simp only [okc, decide_eq_true_eq] at o2
          repeat' (first
            | with_reducible (first | refine wp_seq ?_ | refine wp_blk ?_ | refine wp_skip ?_ | refine wp_exit ?_ | refine wp_ret ?_ | refine seqQ_norm ?_ | refine seqQ_ret ?_ | refine seqQ_exit ?_ | refine blkQ_norm ?_ | refine blkQ_ret ?_ | refine blkQ_exit ?_ | refine loopQ_norm ?_ | refine loopQ_exit ?_ | refine loopQ_ret ?_ | refine endQ_ret ?_ | refine endQ_norm ?_ | refine endE_ret ?_ | refine endE_norm ?_ | refine endI_ret ?_ | refine endI_norm ?_)
            | (with_reducible refine wp_regK fun K hK => ?_
               simp[hg, hlt, hlt2, hw, hwd, q1, q3]
               repeat' (with_reducible first | refine hK _ ?_ | (refine psel ?_ ?_ <;> (intro hc; (try rw [Decidable.not_not] at hc); first | (exfalso; omega) | (try simp [hc, hg, hlt, hlt2, hw, hwd, q1, q3]))))
               all_goals (clear hK; clear K))
            | (with_reducible refine wp_condE ?_
               refine ⟨_, rfl, ?_, ?_⟩ <;> (intro hc; (try simp at hc); (all_goals first | (exfalso; omega) | skip))))
          all_goals first | (simp [pf341, valOkF, u1, ← h2]; done) | (exfalso; omega) | skip
      · have q3 : ¬ (pre.length : Int) ≤ 6 := by omega
        have q2 : ¬ x_S.size ≤ 6 := by omega
        have q4 : ¬ (x_S.size : Int) ≤ 6 := by omega
        repeat' (first
          | with_reducible (first | refine wp_seq ?_ | refine wp_blk ?_ | refine wp_skip ?_ | refine wp_exit ?_ | refine wp_ret ?_ | refine seqQ_norm ?_ | refine seqQ_ret ?_ | refine seqQ_exit ?_ | refine blkQ_norm ?_ | refine blkQ_ret ?_ | refine blkQ_exit ?_ | refine loopQ_norm ?_ | refine loopQ_exit ?_ | refine loopQ_ret ?_ | refine endQ_ret ?_ | refine endQ_norm ?_ | refine endE_ret ?_ | refine endE_norm ?_ | refine endI_ret ?_ | refine endI_norm ?_)
          | (with_reducible refine wp_regK fun K hK => ?_
             simp[hg, hlt, hlt2, hw, hwd, q1, q3, q4]
             repeat' (with_reducible first | refine hK _ ?_ | (refine psel ?_ ?_ <;> (intro hc; (try rw [Decidable.not_not] at hc); first | (exfalso; omega) | (try simp [hc, hg, hlt, hlt2, hw, hwd, q1, q3, q4]))))
             all_goals (clear hK; clear K))
          | (with_reducible refine wp_condE ?_
             refine ⟨_, rfl, ?_, ?_⟩ <;> (intro hc; (try simp at hc); (all_goals first | (exfalso; omega) | skip))))
        all_goals first | (simp [pf341, valOkF, u1, q2, q4, q3]; done) | (simp_all [pf341, valOkF]; done) | (exfalso; omega) | skip

@[simp] theorem t208 (k0 k1 : Bool) (l : List XRow) (h : l.length ≤ 1048576) (hs : XRow.sms l) : Gw TT 208 [.one (.ro k0 (.sl 2 (l.map XRow.e))), .one (.ro k1 (.sl 2 (l.map XRow.e)))] = some (vb true, []) := by
  refine Gw_of (F := pf208) rfl rfl ?_
  show Wp _ pb208 _ _
  unfold pb208
  repeat' (first
    | with_reducible (first | refine wp_seq ?_ | refine wp_blk ?_ | refine wp_skip ?_ | refine wp_exit ?_ | refine wp_ret ?_ | refine seqQ_norm ?_ | refine seqQ_ret ?_ | refine seqQ_exit ?_ | refine blkQ_norm ?_ | refine blkQ_ret ?_ | refine blkQ_exit ?_ | refine loopQ_norm ?_ | refine loopQ_exit ?_ | refine loopQ_ret ?_ | refine endQ_ret ?_ | refine endQ_norm ?_ | refine endE_ret ?_ | refine endE_norm ?_ | refine endI_ret ?_ | refine endI_norm ?_)
    | (with_reducible refine wp_regK fun K hK => ?_
       simp
       repeat' (with_reducible first | refine hK _ ?_ | (refine psel ?_ ?_ <;> (intro hc; (try rw [Decidable.not_not] at hc); first | (exfalso; omega) | (try simp [hc]))))
       all_goals (clear hK; clear K))
    | (with_reducible refine wp_condE ?_
       refine ⟨_, rfl, ?_, ?_⟩ <;> (intro hc; (try simp at hc); (all_goals first | (exfalso; omega) | skip))))
  refine wp_loopI (σ := List XRow × List XRow) (fun s => [(0, AV.v k0 (D.sl 2 (l.map XRow.e)), none), (1, AV.v k1 (D.sl 2 (l.map XRow.e)), none), (5, AV.v false (di ((s.1.length : Nat) : Int)), none)]) (fun s => l = s.1 ++ s.2) (fun s => s.2.length) ([], l) (by simp) rfl ?_
  rintro ⟨pre, rest⟩ h1
  simp only at h1
  subst h1
  simp only [List.length_append, List.length_cons] at h
  rcases rest with _ | ⟨d, rest⟩
  · unfold pl208_0
    repeat' (first
      | with_reducible (first | refine wp_seq ?_ | refine wp_blk ?_ | refine wp_skip ?_ | refine wp_exit ?_ | refine wp_ret ?_ | refine seqQ_norm ?_ | refine seqQ_ret ?_ | refine seqQ_exit ?_ | refine blkQ_norm ?_ | refine blkQ_ret ?_ | refine blkQ_exit ?_ | refine loopQ_norm ?_ | refine loopQ_exit ?_ | refine loopQ_ret ?_ | refine endQ_ret ?_ | refine endQ_norm ?_ | refine endE_ret ?_ | refine endE_norm ?_ | refine endI_ret ?_ | refine endI_norm ?_)
      | (with_reducible refine wp_regK fun K hK => ?_
         simp
         repeat' (with_reducible first | refine hK _ ?_ | (refine psel ?_ ?_ <;> (intro hc; (try rw [Decidable.not_not] at hc); first | (exfalso; omega) | (try simp [hc]))))
         all_goals (clear hK; clear K))
      | (with_reducible refine wp_condE ?_
         refine ⟨_, rfl, ?_, ?_⟩ <;> (intro hc; (try simp at hc); (all_goals first | (exfalso; omega) | skip))))
    all_goals first | (simp [pf208]; done) | (exfalso; omega)
  · unfold pl208_0
    simp only [List.length_cons] at h
    have hd := hs d (by simp)
    simp only [XRow.sm] at hd
    obtain ⟨hd1, hd2⟩ := hd
    have hw : IntKind.wrap .i64 ((pre.length : Int) + 1) = (pre.length : Int) + 1 := wrap_i64 (by omega) (by omega)
    have hlt : (pre.length : Int) < (pre.length : Int) + ((rest.length : Int) + 1) := by omega
    repeat' (first
      | with_reducible (first | refine wp_seq ?_ | refine wp_blk ?_ | refine wp_skip ?_ | refine wp_exit ?_ | refine wp_ret ?_ | refine seqQ_norm ?_ | refine seqQ_ret ?_ | refine seqQ_exit ?_ | refine blkQ_norm ?_ | refine blkQ_ret ?_ | refine blkQ_exit ?_ | refine loopQ_norm ?_ | refine loopQ_exit ?_ | refine loopQ_ret ?_ | refine endQ_ret ?_ | refine endQ_norm ?_ | refine endE_ret ?_ | refine endE_norm ?_ | refine endI_ret ?_ | refine endI_norm ?_)
      | (with_reducible refine wp_regK fun K hK => ?_
         simp[hw, hd1, hlt]
         repeat' (with_reducible first | refine hK _ ?_ | (refine psel ?_ ?_ <;> (intro hc; (try rw [Decidable.not_not] at hc); first | (exfalso; omega) | (try simp [hc, hw, hd1, hlt]))))
         all_goals (clear hK; clear K))
      | (with_reducible refine wp_condE ?_
         refine ⟨_, rfl, ?_, ?_⟩ <;> (intro hc; (try simp at hc); (all_goals first | (exfalso; omega) | skip))))
    all_goals first | exact ⟨(pre ++ [d], rest), by simp, by simp, by simp⟩ | (exfalso; omega) | skip

def CountE (x : XPred) : Prop := ∀ k1 : Bool, x.sm → ∃ n : Int, Gw TT 349 [.st [.ro false (di x.Kind), .ro false (di x.Col), .ro false (di x.Op), .ro false (di x.V.Ty), .ro false (di x.V.N), .ro false (.str x.V.S), .ro k1 (.sl 7 (x.L.map XPred.e))]] = some (vi n, [])

theorem CountE_of (x : XPred) (IH : ∀ y ∈ x.L, CountE y) : CountE x := by
  intro k1 hx
  suffices h0 : ∃ y, Gw TT 349 [.st [.ro false (di x.Kind), .ro false (di x.Col), .ro false (di x.Op), .ro false (di x.V.Ty), .ro false (di x.V.N), .ro false (.str x.V.S), .ro k1 (.sl 7 (x.L.map XPred.e))]] = some y ∧ ∃ n : Int, y = (vi n, []) by
    obtain ⟨y, q1, n, rfl⟩ := h0
    exact ⟨n, q1⟩
  obtain ⟨x_Kind, x_Col, x_Op, ⟨x_V_Ty, x_V_N, x_V_S⟩, x_L⟩ := x
  simp only [XPred.sm_eq, XVal.sm, and_assoc] at hx
  obtain ⟨m1, m2, m3⟩ := hx
  refine Gw_ofE (F := pf349) rfl rfl ?_
  show Wp _ pb349 _ _
  unfold pb349
  repeat' (first
    | with_reducible (first | refine wp_seq ?_ | refine wp_blk ?_ | refine wp_skip ?_ | refine wp_exit ?_ | refine wp_ret ?_ | refine seqQ_norm ?_ | refine seqQ_ret ?_ | refine seqQ_exit ?_ | refine blkQ_norm ?_ | refine blkQ_ret ?_ | refine blkQ_exit ?_ | refine loopQ_norm ?_ | refine loopQ_exit ?_ | refine loopQ_ret ?_ | refine endQ_ret ?_ | refine endQ_norm ?_ | refine endE_ret ?_ | refine endE_norm ?_ | refine endI_ret ?_ | refine endI_norm ?_)
    | (with_reducible refine wp_regK fun K hK => ?_
       simp
       repeat' (with_reducible first | refine hK _ ?_ | (refine psel ?_ ?_ <;> (intro hc; (try rw [Decidable.not_not] at hc); first | (exfalso; omega) | (try simp [hc]))))
       all_goals (clear hK; clear K))
    | (with_reducible refine wp_condE ?_
       refine ⟨_, rfl, ?_, ?_⟩ <;> (intro hc; (try simp at hc); (all_goals first | (exfalso; omega) | skip))))
  refine wp_loopI (σ := List XPred × List XPred × Int) (fun s => [(1, AV.bx 1 0, some (Rt.bx [.ro false (di x_Kind), .ro false (di x_Col), .ro false (di x_Op), .ro false (di x_V_Ty), .ro false (di x_V_N), .ro false (.str x_V_S), .ro k1 (.sl 7 (x_L.map XPred.e))])), (3, AV.v false (di s.2.2), none), (4, AV.v false (di ((s.1.length : Nat) : Int)), none)]) (fun s => x_L = s.1 ++ s.2.1) (fun s => s.2.1.length) ([], x_L, 1) (by simp) rfl ?_
  rintro ⟨p2, r2, a⟩ h2
  simp only at h2
  have y3 : x_L.length = p2.length + r2.length := by rw [h2, List.length_append]
  rcases r2 with _ | ⟨d, r2⟩
  · simp only [List.length_nil] at y3
    have y4 : ¬ (p2.length : Int) < (x_L.length : Int) := by omega
    unfold pl349_0
    repeat' (first
      | with_reducible (first | refine wp_seq ?_ | refine wp_blk ?_ | refine wp_skip ?_ | refine wp_exit ?_ | refine wp_ret ?_ | refine seqQ_norm ?_ | refine seqQ_ret ?_ | refine seqQ_exit ?_ | refine blkQ_norm ?_ | refine blkQ_ret ?_ | refine blkQ_exit ?_ | refine loopQ_norm ?_ | refine loopQ_exit ?_ | refine loopQ_ret ?_ | refine endQ_ret ?_ | refine endQ_norm ?_ | refine endE_ret ?_ | refine endE_norm ?_ | refine endI_ret ?_ | refine endI_norm ?_)
      | (with_reducible refine wp_regK fun K hK => ?_
         simp[y4]
         repeat' (with_reducible first | refine hK _ ?_ | (refine psel ?_ ?_ <;> (intro hc; (try rw [Decidable.not_not] at hc); first | (exfalso; omega) | (try simp [hc, y4]))))
         all_goals (clear hK; clear K))
      | (with_reducible refine wp_condE ?_
         refine ⟨_, rfl, ?_, ?_⟩ <;> (intro hc; (try simp at hc); (all_goals first | (exfalso; omega) | skip))))
    all_goals first | (exfalso; omega) | exact ⟨_, by simp [pf349]; rfl, a, by simp⟩ | skip
  · skip
    simp only [List.length_cons] at y3
    have hg2 : x_L[p2.length]? = some d := by rw [h2]; simp
    obtain ⟨hlt, he2⟩ := List.getElem?_eq_some_iff.1 hg2
    have hdm : d ∈ x_L := by rw [h2]; simp
    have hd := XPred.sms_mem m3 d hdm
    have y4 : (p2.length : Int) < (x_L.length : Int) := by omega
    have hw : IntKind.wrap .i64 ((p2.length : Int) + 1) = (p2.length : Int) + 1 := wrap_i64 (by omega) (by omega)
    obtain ⟨n, hn⟩ := IH d hdm k1 hd
    unfold pl349_0
    repeat' (first
      | with_reducible (first | refine wp_seq ?_ | refine wp_blk ?_ | refine wp_skip ?_ | refine wp_exit ?_ | refine wp_ret ?_ | refine seqQ_norm ?_ | refine seqQ_ret ?_ | refine seqQ_exit ?_ | refine blkQ_norm ?_ | refine blkQ_ret ?_ | refine blkQ_exit ?_ | refine loopQ_norm ?_ | refine loopQ_exit ?_ | refine loopQ_ret ?_ | refine endQ_ret ?_ | refine endQ_norm ?_ | refine endE_ret ?_ | refine endE_norm ?_ | refine endI_ret ?_ | refine endI_norm ?_)
      | (with_reducible refine wp_regK fun K hK => ?_
         simp[hg2, he2, hlt, y4, hw, hn]
         repeat' (with_reducible first | refine hK _ ?_ | (refine psel ?_ ?_ <;> (intro hc; (try rw [Decidable.not_not] at hc); first | (exfalso; omega) | (try simp [hc, hg2, he2, hlt, y4, hw, hn]))))
         all_goals (clear hK; clear K))
      | (with_reducible refine wp_condE ?_
         refine ⟨_, rfl, ?_, ?_⟩ <;> (intro hc; (try simp at hc); (all_goals first | (exfalso; omega) | skip))))
    all_goals first | (exfalso; omega) | exact ⟨(p2 ++ [d], r2, _), by simp; rfl, by rw [h2]; simp, by simp⟩ | skip

theorem CountE_all (x : XPred) : CountE x := CountE_of x fun y hy => CountE_all y
termination_by SizeOf.sizeOf x
decreasing_by
  have h1 := List.sizeOf_lt_of_mem hy
  have h2 : SizeOf.sizeOf x.L < SizeOf.sizeOf x := by cases x; simp; omega
  omega

def DeepE (cols : List Int) (x : XPred) : Prop := ∀ (k0 k1 : Bool) (dp : Int), x.sm → ∃ b : Bool, Gw TT 350 [.one (.ro k0 (.sl 1 (cols.map ei))), .st [.ro false (di x.Kind), .ro false (di x.Col), .ro false (di x.Op), .ro false (di x.V.Ty), .ro false (di x.V.N), .ro false (.str x.V.S), .ro k1 (.sl 7 (x.L.map XPred.e))], vi dp] = some (vb b, [])

theorem DeepE_of (cols : List Int) (hc : cols.length ≤ 1000) (x : XPred) (IH : ∀ y ∈ x.L, DeepE cols y) : DeepE cols x := by
  intro k0 k1 dp hx
  suffices h0 : ∃ y, Gw TT 350 [.one (.ro k0 (.sl 1 (cols.map ei))), .st [.ro false (di x.Kind), .ro false (di x.Col), .ro false (di x.Op), .ro false (di x.V.Ty), .ro false (di x.V.N), .ro false (.str x.V.S), .ro k1 (.sl 7 (x.L.map XPred.e))], vi dp] = some y ∧ ∃ n : Bool, y = (vb n, []) by
    obtain ⟨y, q1, n, rfl⟩ := h0
    exact ⟨n, q1⟩
  obtain ⟨x_Kind, x_Col, x_Op, ⟨x_V_Ty, x_V_N, x_V_S⟩, x_L⟩ := x
  simp only [XPred.sm_eq, XVal.sm, and_assoc] at hx
  obtain ⟨m1, m2, m3⟩ := hx
  refine Gw_ofE (F := pf350) rfl rfl ?_
  show Wp _ pb350 _ _
  unfold pb350
  by_cases g0 : 4 < dp
  · repeat' (first
      | with_reducible (first | refine wp_seq ?_ | refine wp_blk ?_ | refine wp_skip ?_ | refine wp_exit ?_ | refine wp_ret ?_ | refine seqQ_norm ?_ | refine seqQ_ret ?_ | refine seqQ_exit ?_ | refine blkQ_norm ?_ | refine blkQ_ret ?_ | refine blkQ_exit ?_ | refine loopQ_norm ?_ | refine loopQ_exit ?_ | refine loopQ_ret ?_ | refine endQ_ret ?_ | refine endQ_norm ?_ | refine endE_ret ?_ | refine endE_norm ?_ | refine endI_ret ?_ | refine endI_norm ?_)
      | (with_reducible refine wp_regK fun K hK => ?_
         simp[g0]
         repeat' (with_reducible first | refine hK _ ?_ | (refine psel ?_ ?_ <;> (intro hc; (try rw [Decidable.not_not] at hc); first | (exfalso; omega) | (try simp [hc, g0]))))
         all_goals (clear hK; clear K))
      | (with_reducible refine wp_condE ?_
         refine ⟨_, rfl, ?_, ?_⟩ <;> (intro hc; (try simp at hc); (all_goals first | (exfalso; omega) | skip))))
    all_goals first | (exfalso; omega) | exact ⟨_, by simp [pf350]; rfl, _, rfl⟩ | skip
  repeat' (first
    | with_reducible (first | refine wp_seq ?_ | refine wp_blk ?_ | refine wp_skip ?_ | refine wp_exit ?_ | refine wp_ret ?_ | refine seqQ_norm ?_ | refine seqQ_ret ?_ | refine seqQ_exit ?_ | refine blkQ_norm ?_ | refine blkQ_ret ?_ | refine blkQ_exit ?_ | refine loopQ_norm ?_ | refine loopQ_exit ?_ | refine loopQ_ret ?_ | refine endQ_ret ?_ | refine endQ_norm ?_ | refine endE_ret ?_ | refine endE_norm ?_ | refine endI_ret ?_ | refine endI_norm ?_)
    | (with_reducible refine wp_regK fun K hK => ?_
       simp[g0]
       repeat' (with_reducible first | refine hK _ ?_ | (refine psel ?_ ?_ <;> (intro hc; (try rw [Decidable.not_not] at hc); first | (exfalso; omega) | (try simp [hc, g0]))))
       all_goals (clear hK; clear K))
    | (with_reducible refine wp_condE ?_
       refine ⟨_, rfl, ?_, ?_⟩ <;> (intro hc; (try simp at hc); (all_goals first | (exfalso; omega) | skip))))
  refine wp_loopI (σ := List XPred × List XPred) (fun s => [(0, AV.v k0 (D.sl 1 (cols.map ei)), none), (2, AV.v false (di dp), none), (4, AV.bx 4 0, some (Rt.bx [.ro false (di x_Kind), .ro false (di x_Col), .ro false (di x_Op), .ro false (di x_V_Ty), .ro false (di x_V_N), .ro false (.str x_V_S), .ro k1 (.sl 7 (x_L.map XPred.e))])), (7, AV.v false (di ((s.1.length : Nat) : Int)), none)]) (fun s => x_L = s.1 ++ s.2) (fun s => s.2.length) ([], x_L) (by simp) rfl ?_
  rintro ⟨p2, r2⟩ h2
  simp only at h2
  have y3 : x_L.length = p2.length + r2.length := by rw [h2, List.length_append]
  rcases r2 with _ | ⟨d, r2⟩
  · simp only [List.length_nil] at y3
    have y4 : ¬ (p2.length : Int) < (x_L.length : Int) := by omega
    unfold pl350_0
    by_cases z2 : x_Kind = 2
    · by_cases g1 : 0 ≤ x_Col ∧ x_Col ≤ (cols.length : Int) - 1
      · obtain ⟨g2, g3⟩ := g1
        obtain ⟨v, hv⟩ : ∃ v, cols[x_Col.toNat]? = some v := ⟨_, List.getElem?_eq_getElem (by omega)⟩
        obtain ⟨hv1, hv2⟩ := List.getElem?_eq_some_iff.1 hv
        have g4 : x_Col < (cols.length : Int) := by omega
        have hwl : IntKind.wrap .i64 ((cols.length : Int) - 1) = (cols.length : Int) - 1 := wrap_i64 (by omega) (by omega)
        repeat' (first
          | with_reducible (first | refine wp_seq ?_ | refine wp_blk ?_ | refine wp_skip ?_ | refine wp_exit ?_ | refine wp_ret ?_ | refine seqQ_norm ?_ | refine seqQ_ret ?_ | refine seqQ_exit ?_ | refine blkQ_norm ?_ | refine blkQ_ret ?_ | refine blkQ_exit ?_ | refine loopQ_norm ?_ | refine loopQ_exit ?_ | refine loopQ_ret ?_ | refine endQ_ret ?_ | refine endQ_norm ?_ | refine endE_ret ?_ | refine endE_norm ?_ | refine endI_ret ?_ | refine endI_norm ?_)
          | (with_reducible refine wp_regK fun K hK => ?_
             simp[y4, z2, m1, hv, hv1, hv2, g2, g3, g4, hwl]
             repeat' (with_reducible first | refine hK _ ?_ | (refine psel ?_ ?_ <;> (intro hc; (try rw [Decidable.not_not] at hc); first | (exfalso; omega) | (try simp [hc, y4, z2, m1, hv, hv1, hv2, g2, g3, g4, hwl]))))
             all_goals (clear hK; clear K))
          | (with_reducible refine wp_condE ?_
             refine ⟨_, rfl, ?_, ?_⟩ <;> (intro hc; (try simp at hc); (all_goals first | (exfalso; omega) | skip))))
        all_goals first | (exfalso; omega) | exact ⟨_, by simp [pf350]; rfl, _, rfl⟩ | skip
      · have hwl : IntKind.wrap .i64 ((cols.length : Int) - 1) = (cols.length : Int) - 1 := wrap_i64 (by omega) (by omega)
        repeat' (first
          | with_reducible (first | refine wp_seq ?_ | refine wp_blk ?_ | refine wp_skip ?_ | refine wp_exit ?_ | refine wp_ret ?_ | refine seqQ_norm ?_ | refine seqQ_ret ?_ | refine seqQ_exit ?_ | refine blkQ_norm ?_ | refine blkQ_ret ?_ | refine blkQ_exit ?_ | refine loopQ_norm ?_ | refine loopQ_exit ?_ | refine loopQ_ret ?_ | refine endQ_ret ?_ | refine endQ_norm ?_ | refine endE_ret ?_ | refine endE_norm ?_ | refine endI_ret ?_ | refine endI_norm ?_)
          | (with_reducible refine wp_regK fun K hK => ?_
             simp[y4, z2, m1, hwl]
             repeat' (with_reducible first | refine hK _ ?_ | (refine psel ?_ ?_ <;> (intro hc; (try rw [Decidable.not_not] at hc); first | (exfalso; omega) | (try simp [hc, y4, z2, m1, hwl]))))
             all_goals (clear hK; clear K))
          | (with_reducible refine wp_condE ?_
             refine ⟨_, rfl, ?_, ?_⟩ <;> (intro hc; (try simp at hc); (all_goals first | (exfalso; omega) | skip))))
        all_goals first | (exfalso; omega) | exact ⟨_, by simp [pf350]; rfl, _, rfl⟩ | skip
    · by_cases z1 : x_Kind = 1
      · skip
        repeat' (first
          | with_reducible (first | refine wp_seq ?_ | refine wp_blk ?_ | refine wp_skip ?_ | refine wp_exit ?_ | refine wp_ret ?_ | refine seqQ_norm ?_ | refine seqQ_ret ?_ | refine seqQ_exit ?_ | refine blkQ_norm ?_ | refine blkQ_ret ?_ | refine blkQ_exit ?_ | refine loopQ_norm ?_ | refine loopQ_exit ?_ | refine loopQ_ret ?_ | refine endQ_ret ?_ | refine endQ_norm ?_ | refine endE_ret ?_ | refine endE_norm ?_ | refine endI_ret ?_ | refine endI_norm ?_)
          | (with_reducible refine wp_regK fun K hK => ?_
             simp[y4, z1]
             repeat' (with_reducible first | refine hK _ ?_ | (refine psel ?_ ?_ <;> (intro hc; (try rw [Decidable.not_not] at hc); first | (exfalso; omega) | (try simp [hc, y4, z1]))))
             all_goals (clear hK; clear K))
          | (with_reducible refine wp_condE ?_
             refine ⟨_, rfl, ?_, ?_⟩ <;> (intro hc; (try simp at hc); (all_goals first | (exfalso; omega) | skip))))
        all_goals first | (exfalso; omega) | exact ⟨_, by simp [pf350]; rfl, _, rfl⟩ | skip
      · by_cases z3 : x_Kind = 3
        · skip
          repeat' (first
            | with_reducible (first | refine wp_seq ?_ | refine wp_blk ?_ | refine wp_skip ?_ | refine wp_exit ?_ | refine wp_ret ?_ | refine seqQ_norm ?_ | refine seqQ_ret ?_ | refine seqQ_exit ?_ | refine blkQ_norm ?_ | refine blkQ_ret ?_ | refine blkQ_exit ?_ | refine loopQ_norm ?_ | refine loopQ_exit ?_ | refine loopQ_ret ?_ | refine endQ_ret ?_ | refine endQ_norm ?_ | refine endE_ret ?_ | refine endE_norm ?_ | refine endI_ret ?_ | refine endI_norm ?_)
            | (with_reducible refine wp_regK fun K hK => ?_
               simp[y4, z3]
               repeat' (with_reducible first | refine hK _ ?_ | (refine psel ?_ ?_ <;> (intro hc; (try rw [Decidable.not_not] at hc); first | (exfalso; omega) | (try simp [hc, y4, z3]))))
               all_goals (clear hK; clear K))
            | (with_reducible refine wp_condE ?_
               refine ⟨_, rfl, ?_, ?_⟩ <;> (intro hc; (try simp at hc); (all_goals first | (exfalso; omega) | skip))))
          all_goals first | (exfalso; omega) | exact ⟨_, by simp [pf350]; rfl, _, rfl⟩ | skip
        · by_cases z4 : x_Kind = 4
          · skip
            repeat' (first
              | with_reducible (first | refine wp_seq ?_ | refine wp_blk ?_ | refine wp_skip ?_ | refine wp_exit ?_ | refine wp_ret ?_ | refine seqQ_norm ?_ | refine seqQ_ret ?_ | refine seqQ_exit ?_ | refine blkQ_norm ?_ | refine blkQ_ret ?_ | refine blkQ_exit ?_ | refine loopQ_norm ?_ | refine loopQ_exit ?_ | refine loopQ_ret ?_ | refine endQ_ret ?_ | refine endQ_norm ?_ | refine endE_ret ?_ | refine endE_norm ?_ | refine endI_ret ?_ | refine endI_norm ?_)
              | (with_reducible refine wp_regK fun K hK => ?_
                 simp[y4, z4]
                 repeat' (with_reducible first | refine hK _ ?_ | (refine psel ?_ ?_ <;> (intro hc; (try rw [Decidable.not_not] at hc); first | (exfalso; omega) | (try simp [hc, y4, z4]))))
                 all_goals (clear hK; clear K))
              | (with_reducible refine wp_condE ?_
                 refine ⟨_, rfl, ?_, ?_⟩ <;> (intro hc; (try simp at hc); (all_goals first | (exfalso; omega) | skip))))
            all_goals first | (exfalso; omega) | exact ⟨_, by simp [pf350]; rfl, _, rfl⟩ | skip
          · skip
            repeat' (first
              | with_reducible (first | refine wp_seq ?_ | refine wp_blk ?_ | refine wp_skip ?_ | refine wp_exit ?_ | refine wp_ret ?_ | refine seqQ_norm ?_ | refine seqQ_ret ?_ | refine seqQ_exit ?_ | refine blkQ_norm ?_ | refine blkQ_ret ?_ | refine blkQ_exit ?_ | refine loopQ_norm ?_ | refine loopQ_exit ?_ | refine loopQ_ret ?_ | refine endQ_ret ?_ | refine endQ_norm ?_ | refine endE_ret ?_ | refine endE_norm ?_ | refine endI_ret ?_ | refine endI_norm ?_)
              | (with_reducible refine wp_regK fun K hK => ?_
                 simp[y4, z1, z2, z3, z4]
                 repeat' (with_reducible first | refine hK _ ?_ | (refine psel ?_ ?_ <;> (intro hc; (try rw [Decidable.not_not] at hc); first | (exfalso; omega) | (try simp [hc, y4, z1, z2, z3, z4]))))
                 all_goals (clear hK; clear K))
              | (with_reducible refine wp_condE ?_
                 refine ⟨_, rfl, ?_, ?_⟩ <;> (intro hc; (try simp at hc); (all_goals first | (exfalso; omega) | skip))))
            all_goals first | (exfalso; omega) | exact ⟨_, by simp [pf350]; rfl, _, rfl⟩ | skip
  · skip
    simp only [List.length_cons] at y3
    have hg2 : x_L[p2.length]? = some d := by rw [h2]; simp
    obtain ⟨hlt, he2⟩ := List.getElem?_eq_some_iff.1 hg2
    have hdm : d ∈ x_L := by rw [h2]; simp
    have hd := XPred.sms_mem m3 d hdm
    have y4 : (p2.length : Int) < (x_L.length : Int) := by omega
    have hw : IntKind.wrap .i64 ((p2.length : Int) + 1) = (p2.length : Int) + 1 := wrap_i64 (by omega) (by omega)
    have hd2 := hd
    obtain ⟨b, hb⟩ := IH d hdm k0 k1 (IntKind.wrap .i64 (dp + 1)) hd
    unfold pl350_0
    cases b with
    | false =>
      repeat' (first
        | with_reducible (first | refine wp_seq ?_ | refine wp_blk ?_ | refine wp_skip ?_ | refine wp_exit ?_ | refine wp_ret ?_ | refine seqQ_norm ?_ | refine seqQ_ret ?_ | refine seqQ_exit ?_ | refine blkQ_norm ?_ | refine blkQ_ret ?_ | refine blkQ_exit ?_ | refine loopQ_norm ?_ | refine loopQ_exit ?_ | refine loopQ_ret ?_ | refine endQ_ret ?_ | refine endQ_norm ?_ | refine endE_ret ?_ | refine endE_norm ?_ | refine endI_ret ?_ | refine endI_norm ?_)
        | (with_reducible refine wp_regK fun K hK => ?_
           simp[hg2, he2, hlt, y4, hw, hb]
           repeat' (with_reducible first | refine hK _ ?_ | (refine psel ?_ ?_ <;> (intro hc; (try rw [Decidable.not_not] at hc); first | (exfalso; omega) | (try simp [hc, hg2, he2, hlt, y4, hw, hb]))))
           all_goals (clear hK; clear K))
        | (with_reducible refine wp_condE ?_
           refine ⟨_, rfl, ?_, ?_⟩ <;> (intro hc; (try simp at hc); (all_goals first | (exfalso; omega) | skip))))
      all_goals first | (exfalso; omega) | exact ⟨_, by simp [pf350]; rfl, _, rfl⟩ | skip
    | true =>
      repeat' (first
        | with_reducible (first | refine wp_seq ?_ | refine wp_blk ?_ | refine wp_skip ?_ | refine wp_exit ?_ | refine wp_ret ?_ | refine seqQ_norm ?_ | refine seqQ_ret ?_ | refine seqQ_exit ?_ | refine blkQ_norm ?_ | refine blkQ_ret ?_ | refine blkQ_exit ?_ | refine loopQ_norm ?_ | refine loopQ_exit ?_ | refine loopQ_ret ?_ | refine endQ_ret ?_ | refine endQ_norm ?_ | refine endE_ret ?_ | refine endE_norm ?_ | refine endI_ret ?_ | refine endI_norm ?_)
        | (with_reducible refine wp_regK fun K hK => ?_
           simp[hg2, he2, hlt, y4, hw, hb]
           repeat' (with_reducible first | refine hK _ ?_ | (refine psel ?_ ?_ <;> (intro hc; (try rw [Decidable.not_not] at hc); first | (exfalso; omega) | (try simp [hc, hg2, he2, hlt, y4, hw, hb]))))
           all_goals (clear hK; clear K))
        | (with_reducible refine wp_condE ?_
           refine ⟨_, rfl, ?_, ?_⟩ <;> (intro hc; (try simp at hc); (all_goals first | (exfalso; omega) | skip))))
      all_goals first | (exfalso; omega) | exact ⟨(p2 ++ [d], r2), by simp, by rw [h2]; simp, by simp⟩ | skip

theorem DeepE_all (cols : List Int) (hc : cols.length ≤ 1000) (x : XPred) : DeepE cols x := DeepE_of cols hc x fun y hy => DeepE_all cols hc y
termination_by SizeOf.sizeOf x
decreasing_by
  have h1 := List.sizeOf_lt_of_mem hy
  have h2 : SizeOf.sizeOf x.L < SizeOf.sizeOf x := by cases x; simp; omega
  omega

theorem okP_ex (cols : List Int) (hc : cols.length ≤ 1000) (x : XPred) (k0 k1 : Bool) (hx : x.sm) : ∃ b : Bool, Gw TT 320 [.one (.ro k0 (.sl 1 (cols.map ei))), .st [.ro false (di x.Kind), .ro false (di x.Col), .ro false (di x.Op), .ro false (di x.V.Ty), .ro false (di x.V.N), .ro false (.str x.V.S), .ro k1 (.sl 7 (x.L.map XPred.e))]] = some (vb b, []) := by
  obtain ⟨n, hn⟩ := CountE_all x k1 hx
  obtain ⟨b, hb⟩ := DeepE_all cols hc x k0 k1 1 hx
  suffices h0 : ∃ y, Gw TT 320 [.one (.ro k0 (.sl 1 (cols.map ei))), .st [.ro false (di x.Kind), .ro false (di x.Col), .ro false (di x.Op), .ro false (di x.V.Ty), .ro false (di x.V.N), .ro false (.str x.V.S), .ro k1 (.sl 7 (x.L.map XPred.e))]] = some y ∧ ∃ n : Bool, y = (vb n, []) by
    obtain ⟨y, q1, n, rfl⟩ := h0
    exact ⟨n, q1⟩
  obtain ⟨x_Kind, x_Col, x_Op, ⟨x_V_Ty, x_V_N, x_V_S⟩, x_L⟩ := x
  simp only [XPred.sm_eq, XVal.sm, and_assoc] at hx
  obtain ⟨m1, m2, m3⟩ := hx
  simp only at hn hb
  refine Gw_ofE (F := pf320) rfl rfl ?_
  show Wp _ pb320 _ _
  unfold pb320
  have hc2 : cols.length ≤ 1048576 := by omega
  repeat' (first
    | with_reducible (first | refine wp_seq ?_ | refine wp_blk ?_ | refine wp_skip ?_ | refine wp_exit ?_ | refine wp_ret ?_ | refine seqQ_norm ?_ | refine seqQ_ret ?_ | refine seqQ_exit ?_ | refine blkQ_norm ?_ | refine blkQ_ret ?_ | refine blkQ_exit ?_ | refine loopQ_norm ?_ | refine loopQ_exit ?_ | refine loopQ_ret ?_ | refine endQ_ret ?_ | refine endQ_norm ?_ | refine endE_ret ?_ | refine endE_norm ?_ | refine endI_ret ?_ | refine endI_norm ?_)
    | (with_reducible refine wp_regK fun K hK => ?_
       simp[hn, hb, hc2]
       repeat' (with_reducible first | refine hK _ ?_ | (refine psel ?_ ?_ <;> (intro hc; (try rw [Decidable.not_not] at hc); first | (exfalso; omega) | (try simp [hc, hn, hb, hc2]))))
       all_goals (clear hK; clear K))
    | (with_reducible refine wp_condE ?_
       refine ⟨_, rfl, ?_, ?_⟩ <;> (intro hc; (try simp at hc); (all_goals first | (exfalso; omega) | skip))))
  all_goals first | (exfalso; omega) | exact ⟨_, by simp [pf320]; rfl, _, rfl⟩ | skip

noncomputable def okPb (cols : List Int) (hc : cols.length ≤ 1000) (x : XPred) (k0 k1 : Bool) (hx : x.sm) : Bool := Classical.choose (okP_ex cols hc x k0 k1 hx)

@[simp] theorem t320 (cols : List Int) (hc : cols.length ≤ 1000) (k0 k1 : Bool) (x_Kind x_Col x_Op x_V_Ty x_V_N : Int) (x_V_S : ByteArray) (x_L : List XPred) (hx : XPred.sm ⟨x_Kind, x_Col, x_Op, ⟨x_V_Ty, x_V_N, x_V_S⟩, x_L⟩) : Gw TT 320 [.one (.ro k0 (.sl 1 (cols.map ei))), .st [.ro false (di x_Kind), .ro false (di x_Col), .ro false (di x_Op), .ro false (di x_V_Ty), .ro false (di x_V_N), .ro false (.str x_V_S), .ro k1 (.sl 7 (x_L.map XPred.e))]] = some (vb (okPb cols hc _ k0 k1 hx), []) := Classical.choose_spec (okP_ex cols hc _ k0 k1 hx)

theorem bnil_size : (⟨#[]⟩ : ByteArray).size = 0 := rfl

theorem d348_ex (c : XCur) (k0 : Bool) (cols : List Int) (h1 : 1 ≤ cols.length) (h : cols.length ≤ 1000) : ∃ r : (XPred) × XCur, Gw TT 348 [.ptr [.ro false (.sl 1 (c.b.map eb)), .ro false (di (c.i : Nat)), .ro false (di c.h)], .one (.ro k0 (.sl 1 (cols.map ei)))] = some (.st [.ro false (di r.1.Kind), .ro false (di r.1.Col), .ro false (di r.1.Op), .ro false (di r.1.V.Ty), .ro false (di r.1.V.N), .ro false (.str r.1.V.S), .own (.sl 7 (r.1.L.map XPred.e))], [(0, 0, .ro false (.sl 1 (r.2.b.map eb))), (0, 1, .ro false (di (r.2.i : Nat))), (0, 2, .ro false (di r.2.h))]) ∧ (r.1.sm) := by
  suffices h0 : ∃ y, Gw TT 348 [.ptr [.ro false (.sl 1 (c.b.map eb)), .ro false (di (c.i : Nat)), .ro false (di c.h)], .one (.ro k0 (.sl 1 (cols.map ei)))] = some y ∧ ∃ r : (XPred) × XCur, y = (.st [.ro false (di r.1.Kind), .ro false (di r.1.Col), .ro false (di r.1.Op), .ro false (di r.1.V.Ty), .ro false (di r.1.V.N), .ro false (.str r.1.V.S), .own (.sl 7 (r.1.L.map XPred.e))], [(0, 0, .ro false (.sl 1 (r.2.b.map eb))), (0, 1, .ro false (di (r.2.i : Nat))), (0, 2, .ro false (di r.2.h))]) ∧ (r.1.sm) by
    obtain ⟨y, h1, r, rfl, h2⟩ := h0
    exact ⟨r, h1, h2⟩
  refine Gw_ofE (F := pf348) rfl rfl ?_
  show Wp _ pb348 _ _
  unfold pb348
  have q := p375 c (cols.length : Int)
  obtain ⟨⟨k, c1⟩, hk⟩ : ∃ r, d375 c (cols.length : Int) = r := ⟨_, rfl⟩
  rw [hk] at q
  simp only at q
  have q2 := q.2.1 (by omega)
  have q3 := q.1
  obtain ⟨w, hw1⟩ : ∃ w, cols[k.toNat]? = some w := ⟨_, List.getElem?_eq_getElem (by omega)⟩
  obtain ⟨hw2, hw3⟩ := List.getElem?_eq_some_iff.1 hw1
  obtain ⟨⟨v, c2⟩, hv⟩ : ∃ r, d395 c1 = r := ⟨_, rfl⟩
  have mv := p395 c1
  rw [hv] at mv
  simp only at mv
  obtain ⟨⟨u, c3⟩, hu⟩ : ∃ r, d396 c2 = r := ⟨_, rfl⟩
  have mu := p396 c2
  rw [hu] at mu
  simp only at mu
  by_cases z : w = 2
  · repeat' (first
      | with_reducible (first | refine wp_seq ?_ | refine wp_blk ?_ | refine wp_skip ?_ | refine wp_exit ?_ | refine wp_ret ?_ | refine seqQ_norm ?_ | refine seqQ_ret ?_ | refine seqQ_exit ?_ | refine blkQ_norm ?_ | refine blkQ_ret ?_ | refine blkQ_exit ?_ | refine loopQ_norm ?_ | refine loopQ_exit ?_ | refine loopQ_ret ?_ | refine endQ_ret ?_ | refine endQ_norm ?_ | refine endE_ret ?_ | refine endE_norm ?_ | refine endI_ret ?_ | refine endI_norm ?_)
      | (with_reducible refine wp_regK fun K hK => ?_
         simp[hk, hv, hu, q2, q3, hw1, hw2, hw3, z]
         repeat' (with_reducible first | refine hK _ ?_ | (refine psel ?_ ?_ <;> (intro hc; (try rw [Decidable.not_not] at hc); first | (exfalso; omega) | (try simp [hc, hk, hv, hu, q2, q3, hw1, hw2, hw3, z]))))
         all_goals (clear hK; clear K))
      | (with_reducible refine wp_condE ?_
         refine ⟨_, rfl, ?_, ?_⟩ <;> (intro hc; (try simp at hc); (all_goals first | (exfalso; omega) | skip))))
    all_goals first | (exfalso; omega) | (refine ⟨_, by simp [pf348]; rfl, ?_⟩; refine ⟨((⟨2, k, IntKind.wrap .i64 (1 + (d375 c3 6).1), u, []⟩ : XPred), (d375 c3 6).2), ?_, ?_⟩; (focus (first | (simp; done) | (simp [*]; done))); (focus (simp [XPred.sm_eq, XVal.sm, XPred.sms, bnil_size]; omega))) | skip
  · repeat' (first
      | with_reducible (first | refine wp_seq ?_ | refine wp_blk ?_ | refine wp_skip ?_ | refine wp_exit ?_ | refine wp_ret ?_ | refine seqQ_norm ?_ | refine seqQ_ret ?_ | refine seqQ_exit ?_ | refine blkQ_norm ?_ | refine blkQ_ret ?_ | refine blkQ_exit ?_ | refine loopQ_norm ?_ | refine loopQ_exit ?_ | refine loopQ_ret ?_ | refine endQ_ret ?_ | refine endQ_norm ?_ | refine endE_ret ?_ | refine endE_norm ?_ | refine endI_ret ?_ | refine endI_norm ?_)
      | (with_reducible refine wp_regK fun K hK => ?_
         simp[hk, hv, hu, q2, q3, hw1, hw2, hw3, z]
         repeat' (with_reducible first | refine hK _ ?_ | (refine psel ?_ ?_ <;> (intro hc; (try rw [Decidable.not_not] at hc); first | (exfalso; omega) | (try simp [hc, hk, hv, hu, q2, q3, hw1, hw2, hw3, z]))))
         all_goals (clear hK; clear K))
      | (with_reducible refine wp_condE ?_
         refine ⟨_, rfl, ?_, ?_⟩ <;> (intro hc; (try simp at hc); (all_goals first | (exfalso; omega) | skip))))
    all_goals first | (exfalso; omega) | (refine ⟨_, by simp [pf348]; rfl, ?_⟩; refine ⟨((⟨2, k, IntKind.wrap .i64 (1 + (d375 c2 6).1), v, []⟩ : XPred), (d375 c2 6).2), ?_, ?_⟩; (focus (first | (simp; done) | (simp [*]; done))); (focus (simp [XPred.sm_eq, XVal.sm, XPred.sms, bnil_size]; omega))) | skip

noncomputable def d348 (c : XCur) (k0 : Bool) (cols : List Int) (h1 : 1 ≤ cols.length) (h : cols.length ≤ 1000) : (XPred) × XCur := Classical.choose (d348_ex c k0 cols h1 h)

@[simp] theorem t348 (c : XCur) (k0 : Bool) (cols : List Int) (h1 : 1 ≤ cols.length) (h : cols.length ≤ 1000) : Gw TT 348 [.ptr [.ro false (.sl 1 (c.b.map eb)), .ro false (di (c.i : Nat)), .ro false (di c.h)], .one (.ro k0 (.sl 1 (cols.map ei)))] = some (.st [.ro false (di (d348 c k0 cols h1 h).1.Kind), .ro false (di (d348 c k0 cols h1 h).1.Col), .ro false (di (d348 c k0 cols h1 h).1.Op), .ro false (di (d348 c k0 cols h1 h).1.V.Ty), .ro false (di (d348 c k0 cols h1 h).1.V.N), .ro false (.str (d348 c k0 cols h1 h).1.V.S), .own (.sl 7 ((d348 c k0 cols h1 h).1.L.map XPred.e))], [(0, 0, .ro false (.sl 1 ((d348 c k0 cols h1 h).2.b.map eb))), (0, 1, .ro false (di ((d348 c k0 cols h1 h).2.i : Nat))), (0, 2, .ro false (di (d348 c k0 cols h1 h).2.h))]) := (Classical.choose_spec (d348_ex c k0 cols h1 h)).1

theorem p348 (c : XCur) (k0 : Bool) (cols : List Int) (h1 : 1 ≤ cols.length) (h : cols.length ≤ 1000) : (d348 c k0 cols h1 h).1.sm := (Classical.choose_spec (d348_ex c k0 cols h1 h)).2

theorem d351_ex (n : Nat) (hn : n ≤ 1000) (c : XCur) (k0 : Bool) (cols : List Int) (h1 : 1 ≤ cols.length) (h : cols.length ≤ 1000) : ∃ r : XPred × XCur, Gw TT 351 [.ptr [.ro false (.sl 1 (c.b.map eb)), .ro false (di (c.i : Nat)), .ro false (di c.h)], .one (.ro k0 (.sl 1 (cols.map ei))), vi (n : Nat)] = some (.st [.ro false (di r.1.Kind), .ro false (di r.1.Col), .ro false (di r.1.Op), .ro false (di r.1.V.Ty), .ro false (di r.1.V.N), .ro false (.str r.1.V.S), .own (.sl 7 (r.1.L.map XPred.e))], [(0, 0, .ro false (.sl 1 (r.2.b.map eb))), (0, 1, .ro false (di (r.2.i : Nat))), (0, 2, .ro false (di r.2.h))]) ∧ r.1.sm := by
  induction n generalizing c with
  | zero =>
    suffices h0 : ∃ y, Gw TT 351 [.ptr [.ro false (.sl 1 (c.b.map eb)), .ro false (di (c.i : Nat)), .ro false (di c.h)], .one (.ro k0 (.sl 1 (cols.map ei))), vi (0 : Nat)] = some y ∧ ∃ r : XPred × XCur, y = (.st [.ro false (di r.1.Kind), .ro false (di r.1.Col), .ro false (di r.1.Op), .ro false (di r.1.V.Ty), .ro false (di r.1.V.N), .ro false (.str r.1.V.S), .own (.sl 7 (r.1.L.map XPred.e))], [(0, 0, .ro false (.sl 1 (r.2.b.map eb))), (0, 1, .ro false (di (r.2.i : Nat))), (0, 2, .ro false (di r.2.h))]) ∧ r.1.sm by
      obtain ⟨y, g1, r, rfl, g2⟩ := h0
      exact ⟨r, g1, g2⟩
    refine Gw_ofE (F := pf351) rfl rfl ?_
    show Wp _ pb351 _ _
    unfold pb351
    have a1 := p348 (d382 c 5).2 k0 cols h1 h
    repeat' (first
      | with_reducible (first | refine wp_seq ?_ | refine wp_blk ?_ | refine wp_skip ?_ | refine wp_exit ?_ | refine wp_ret ?_ | refine seqQ_norm ?_ | refine seqQ_ret ?_ | refine seqQ_exit ?_ | refine blkQ_norm ?_ | refine blkQ_ret ?_ | refine blkQ_exit ?_ | refine loopQ_norm ?_ | refine loopQ_exit ?_ | refine loopQ_ret ?_ | refine endQ_ret ?_ | refine endQ_norm ?_ | refine endE_ret ?_ | refine endE_norm ?_ | refine endI_ret ?_ | refine endI_norm ?_)
      | (with_reducible refine wp_regK fun K hK => ?_
         simp[hn, h1, h]
         repeat' (with_reducible first | refine hK _ ?_ | (refine psel ?_ ?_ <;> (intro hc; (try rw [Decidable.not_not] at hc); first | (exfalso; omega) | (try simp [hc, hn, h1, h]))))
         all_goals (clear hK; clear K))
      | (with_reducible refine wp_condE ?_
         refine ⟨_, rfl, ?_, ?_⟩ <;> (intro hc; (try simp at hc); (all_goals first | (exfalso; omega) | skip))))
    all_goals first | (exfalso; omega) | (refine ⟨_, by simp [pf351]; rfl, ?_⟩; refine ⟨((⟨1, 0, 0, ⟨0, 0, ⟨#[]⟩⟩, []⟩ : XPred), (d382 c 5).2), ?_, ?_⟩; (focus (first | (simp; done) | (simp [*]; done))); (focus (simp [XPred.sm_eq, XVal.sm, XPred.sms, bnil_size]))) | (refine ⟨_, by simp [pf351]; rfl, ?_⟩; refine ⟨(d348 (d382 c 5).2 k0 cols h1 h), ?_, ?_⟩; (focus (first | (simp; done) | (simp [*]; done))); (focus (exact a1))) | skip
  | succ n IH =>
    suffices h0 : ∃ y, Gw TT 351 [.ptr [.ro false (.sl 1 (c.b.map eb)), .ro false (di (c.i : Nat)), .ro false (di c.h)], .one (.ro k0 (.sl 1 (cols.map ei))), vi ((n + 1 : Nat) : Int)] = some y ∧ ∃ r : XPred × XCur, y = (.st [.ro false (di r.1.Kind), .ro false (di r.1.Col), .ro false (di r.1.Op), .ro false (di r.1.V.Ty), .ro false (di r.1.V.N), .ro false (.str r.1.V.S), .own (.sl 7 (r.1.L.map XPred.e))], [(0, 0, .ro false (.sl 1 (r.2.b.map eb))), (0, 1, .ro false (di (r.2.i : Nat))), (0, 2, .ro false (di r.2.h))]) ∧ r.1.sm by
      obtain ⟨y, g1, r, rfl, g2⟩ := h0
      exact ⟨r, g1, g2⟩
    refine Gw_ofE (F := pf351) rfl rfl ?_
    show Wp _ pb351 _ _
    unfold pb351
    have hz0 : ¬ ((n : Int) + 1 = 0) := by omega
    have hwn : IntKind.wrap .i64 (n : Int) = (n : Int) := wrap_i64 (by omega) (by omega)
    obtain ⟨⟨v, c1⟩, hv⟩ : ∃ r, d382 c 3 = r := ⟨_, rfl⟩
    cases v with
    | true =>
      have a1 := p348 (d382 c1 5).2 k0 cols h1 h
      repeat' (first
        | with_reducible (first | refine wp_seq ?_ | refine wp_blk ?_ | refine wp_skip ?_ | refine wp_exit ?_ | refine wp_ret ?_ | refine seqQ_norm ?_ | refine seqQ_ret ?_ | refine seqQ_exit ?_ | refine blkQ_norm ?_ | refine blkQ_ret ?_ | refine blkQ_exit ?_ | refine loopQ_norm ?_ | refine loopQ_exit ?_ | refine loopQ_ret ?_ | refine endQ_ret ?_ | refine endQ_norm ?_ | refine endE_ret ?_ | refine endE_norm ?_ | refine endI_ret ?_ | refine endI_norm ?_)
        | (with_reducible refine wp_regK fun K hK => ?_
           simp[hz0, hv, h1, h]
           repeat' (with_reducible first | refine hK _ ?_ | (refine psel ?_ ?_ <;> (intro hc; (try rw [Decidable.not_not] at hc); first | (exfalso; omega) | (try simp [hc, hz0, hv, h1, h]))))
           all_goals (clear hK; clear K))
        | (with_reducible refine wp_condE ?_
           refine ⟨_, rfl, ?_, ?_⟩ <;> (intro hc; (try simp at hc); (all_goals first | (exfalso; omega) | skip))))
      all_goals first | (exfalso; omega) | (refine ⟨_, by simp [pf351]; rfl, ?_⟩; refine ⟨((⟨1, 0, 0, ⟨0, 0, ⟨#[]⟩⟩, []⟩ : XPred), (d382 c1 5).2), ?_, ?_⟩; (focus (first | (simp; done) | (simp [*]; done))); (focus (simp [XPred.sm_eq, XVal.sm, XPred.sms, bnil_size]))) | (refine ⟨_, by simp [pf351]; rfl, ?_⟩; refine ⟨(d348 (d382 c1 5).2 k0 cols h1 h), ?_, ?_⟩; (focus (first | (simp; done) | (simp [*]; done))); (focus (exact a1))) | skip
    | false =>
      have q := p375 (d375 c1 3).2 2
      have qn : ((d375 (d375 c1 3).2 2).1.toNat : Int) = (d375 (d375 c1 3).2 2).1 := Int.toNat_of_nonneg q.1
      have q2 := q.2.1 (by omega)
      have qw : IntKind.wrap .i64 (1 + (d375 (d375 c1 3).2 2).1) = 1 + (d375 (d375 c1 3).2 2).1 := wrap_i64 (by omega) (by omega)
      repeat' (first
        | with_reducible (first | refine wp_seq ?_ | refine wp_blk ?_ | refine wp_skip ?_ | refine wp_exit ?_ | refine wp_ret ?_ | refine seqQ_norm ?_ | refine seqQ_ret ?_ | refine seqQ_exit ?_ | refine blkQ_norm ?_ | refine blkQ_ret ?_ | refine blkQ_exit ?_ | refine loopQ_norm ?_ | refine loopQ_exit ?_ | refine loopQ_ret ?_ | refine endQ_ret ?_ | refine endQ_norm ?_ | refine endE_ret ?_ | refine endE_norm ?_ | refine endI_ret ?_ | refine endI_norm ?_)
        | (with_reducible refine wp_regK fun K hK => ?_
           simp[hz0, hv]
           repeat' (with_reducible first | refine hK _ ?_ | (refine psel ?_ ?_ <;> (intro hc; (try rw [Decidable.not_not] at hc); first | (exfalso; omega) | (try simp [hc, hz0, hv]))))
           all_goals (clear hK; clear K))
        | (with_reducible refine wp_condE ?_
           refine ⟨_, rfl, ?_, ?_⟩ <;> (intro hc; (try simp at hc); (all_goals first | (exfalso; omega) | skip))))
      refine wp_loopI (σ := Nat × List XPred × XCur) (fun s => [(0, AV.bx 0 0, some (Rt.bx [.ro false (.sl 1 (s.2.2.b.map eb)), .ro false (di (s.2.2.i : Nat)), .ro false (di s.2.2.h)])), (1, AV.v k0 (D.sl 1 (cols.map ei)), none), (2, AV.v false (di (((n : Nat) : Int) + 1)), none), (6, AV.bx 6 0, some (Rt.bx [.ro false (di 0), .ro false (di 0), .ro false (di 0), .ro false (di 0), .ro false (di 0), .ro false (.str ⟨#[]⟩), .own (.sl 7 [])])), (7, AV.v false (di (IntKind.wrap .i64 (3 + (d375 c1 3).1))), none), (8, AV.pl 8 0 [], some (Rt.vir [C.own (D.sl 7 ((s.2.1).map XPred.e))])), (9, AV.v false (di ((s.1 : Nat) : Int)), none)]) (fun s => 1 ≤ s.1 + s.2.1.length ∧ s.1 + s.2.1.length ≤ 2 ∧ XPred.sms s.2.1) (fun s => s.1) ((d375 (d375 c1 3).2 2).1.toNat + 1, [], (d375 (d375 c1 3).2 2).2) (by simp [qw, qn]; try omega) ⟨by simp only [List.length_nil]; omega, by simp only [List.length_nil]; omega, by simp [XPred.sms]⟩ ?_
      rintro ⟨i, l, c2⟩ ⟨g1, g2, g3⟩
      simp only at g1 g2 g3
      unfold pl351_0
      rcases i with _ | i
      · rcases l with _ | ⟨x, l⟩
        · simp at g1
        · simp only [List.length_cons] at g1 g2
          have g4 := XPred.sms_mem g3
          have g5 := g4 x (by simp)
          have g6 : 1 ≤ (l.length : Int) + 1 := by omega
          by_cases z5 : IntKind.wrap .i64 (3 + (d375 c1 3).1) = 5
          · repeat' (first
              | with_reducible (first | refine wp_seq ?_ | refine wp_blk ?_ | refine wp_skip ?_ | refine wp_exit ?_ | refine wp_ret ?_ | refine seqQ_norm ?_ | refine seqQ_ret ?_ | refine seqQ_exit ?_ | refine blkQ_norm ?_ | refine blkQ_ret ?_ | refine blkQ_exit ?_ | refine loopQ_norm ?_ | refine loopQ_exit ?_ | refine loopQ_ret ?_ | refine endQ_ret ?_ | refine endQ_norm ?_ | refine endE_ret ?_ | refine endE_norm ?_ | refine endI_ret ?_ | refine endI_norm ?_)
              | (with_reducible refine wp_regK fun K hK => ?_
                 simp[z5, cut, loHi, g6]
                 repeat' (with_reducible first | refine hK _ ?_ | (refine psel ?_ ?_ <;> (intro hc; (try rw [Decidable.not_not] at hc); first | (exfalso; omega) | (try simp [hc, z5, cut, loHi, g6]))))
                 all_goals (clear hK; clear K))
              | (with_reducible refine wp_condE ?_
                 refine ⟨_, rfl, ?_, ?_⟩ <;> (intro hc; (try simp at hc); (all_goals first | (exfalso; omega) | skip))))
            all_goals first | (exfalso; omega) | (refine ⟨_, by simp [pf351]; rfl, ?_⟩; refine ⟨((⟨5, 0, 0, ⟨0, 0, ⟨#[]⟩⟩, [x]⟩ : XPred), c2), ?_, ?_⟩; (focus (first | (simp; done) | (simp [*]; done))); (focus (rw [XPred.sm_eq]; exact ⟨by simp [XVal.sm, bnil_size], by simp, by simp only [XPred.sms]; exact ⟨g5, trivial⟩⟩))) | skip
          · repeat' (first
              | with_reducible (first | refine wp_seq ?_ | refine wp_blk ?_ | refine wp_skip ?_ | refine wp_exit ?_ | refine wp_ret ?_ | refine seqQ_norm ?_ | refine seqQ_ret ?_ | refine seqQ_exit ?_ | refine blkQ_norm ?_ | refine blkQ_ret ?_ | refine blkQ_exit ?_ | refine loopQ_norm ?_ | refine loopQ_exit ?_ | refine loopQ_ret ?_ | refine endQ_ret ?_ | refine endQ_norm ?_ | refine endE_ret ?_ | refine endE_norm ?_ | refine endI_ret ?_ | refine endI_norm ?_)
              | (with_reducible refine wp_regK fun K hK => ?_
                 simp[z5]
                 repeat' (with_reducible first | refine hK _ ?_ | (refine psel ?_ ?_ <;> (intro hc; (try rw [Decidable.not_not] at hc); first | (exfalso; omega) | (try simp [hc, z5]))))
                 all_goals (clear hK; clear K))
              | (with_reducible refine wp_condE ?_
                 refine ⟨_, rfl, ?_, ?_⟩ <;> (intro hc; (try simp at hc); (all_goals first | (exfalso; omega) | skip))))
            all_goals first | (exfalso; omega) | (refine ⟨_, by simp [pf351]; rfl, ?_⟩; refine ⟨((⟨IntKind.wrap .i64 (3 + (d375 c1 3).1), 0, 0, ⟨0, 0, ⟨#[]⟩⟩, x :: l⟩ : XPred), c2), ?_, ?_⟩; (focus (first | (simp; done) | (simp [*]; done))); (focus (simp only [XPred.sm_eq, XVal.sm]; exact ⟨by simp [bnil_size], by simp only [List.length_cons]; omega, g3⟩))) | skip
      · have hwi : IntKind.wrap .i64 (i : Int) = (i : Int) := wrap_i64 (by omega) (by omega)
        have hq : (l.length + 1) * 80 ≤ 70368744177664 := by omega
        obtain ⟨⟨x, c3⟩, e1, x1⟩ := IH (by omega) c2
        simp only at e1 x1
        have x2 : XPred.sms (l ++ [x]) := by
          rw [XPred.sms_eq] at g3 ⊢
          intro y hy
          rcases List.mem_append.1 hy with hy | hy
          · exact g3 y hy
          · rw [List.mem_singleton.1 hy]; exact x1
        repeat' (first
          | with_reducible (first | refine wp_seq ?_ | refine wp_blk ?_ | refine wp_skip ?_ | refine wp_exit ?_ | refine wp_ret ?_ | refine seqQ_norm ?_ | refine seqQ_ret ?_ | refine seqQ_exit ?_ | refine blkQ_norm ?_ | refine blkQ_ret ?_ | refine blkQ_exit ?_ | refine loopQ_norm ?_ | refine loopQ_exit ?_ | refine loopQ_ret ?_ | refine endQ_ret ?_ | refine endQ_norm ?_ | refine endE_ret ?_ | refine endE_norm ?_ | refine endI_ret ?_ | refine endI_norm ?_)
          | (with_reducible refine wp_regK fun K hK => ?_
             simp[hwi, hwn, hq, e1]
             repeat' (with_reducible first | refine hK _ ?_ | (refine psel ?_ ?_ <;> (intro hc; (try rw [Decidable.not_not] at hc); first | (exfalso; omega) | (try simp [hc, hwi, hwn, hq, e1]))))
             all_goals (clear hK; clear K))
          | (with_reducible refine wp_condE ?_
             refine ⟨_, rfl, ?_, ?_⟩ <;> (intro hc; (try simp at hc); (all_goals first | (exfalso; omega) | skip))))
        all_goals first | (exfalso; omega) | (refine ⟨(i, l ++ [x], c3), ?_, ⟨?_, ?_, ?_⟩, ?_⟩; (focus (first | (simp [hwi]; done) | (simp [*]; done))); (focus (simp only [List.length_append, List.length_cons, List.length_nil]; omega)); (focus (simp only [List.length_append, List.length_cons, List.length_nil]; omega)); (focus (exact x2)); (focus (simp; done))) | skip

theorem g351 (n : Int) (hn0 : 0 ≤ n) (hn : n ≤ 1000) (c : XCur) (k0 : Bool) (cols : List Int) (h1 : 1 ≤ cols.length) (h : cols.length ≤ 1000) : ∃ r : XPred × XCur, Gw TT 351 [.ptr [.ro false (.sl 1 (c.b.map eb)), .ro false (di (c.i : Nat)), .ro false (di c.h)], .one (.ro k0 (.sl 1 (cols.map ei))), vi n] = some (.st [.ro false (di r.1.Kind), .ro false (di r.1.Col), .ro false (di r.1.Op), .ro false (di r.1.V.Ty), .ro false (di r.1.V.N), .ro false (.str r.1.V.S), .own (.sl 7 (r.1.L.map XPred.e))], [(0, 0, .ro false (.sl 1 (r.2.b.map eb))), (0, 1, .ro false (di (r.2.i : Nat))), (0, 2, .ro false (di r.2.h))]) ∧ r.1.sm := by
  obtain ⟨m, rfl⟩ : ∃ m : Nat, n = (m : Int) := ⟨n.toNat, by omega⟩
  exact d351_ex m (by omega) c k0 cols h1 h

theorem d352_ex (c : XCur) (k0 : Bool) (cols : List Int) (h1 : 1 ≤ cols.length) (h : cols.length ≤ 1000) : ∃ r : (XPred) × XCur, Gw TT 352 [.ptr [.ro false (.sl 1 (c.b.map eb)), .ro false (di (c.i : Nat)), .ro false (di c.h)], .one (.ro k0 (.sl 1 (cols.map ei)))] = some (.st [.ro false (di r.1.Kind), .ro false (di r.1.Col), .ro false (di r.1.Op), .ro false (di r.1.V.Ty), .ro false (di r.1.V.N), .ro false (.str r.1.V.S), .own (.sl 7 (r.1.L.map XPred.e))], [(0, 0, .ro false (.sl 1 (r.2.b.map eb))), (0, 1, .ro false (di (r.2.i : Nat))), (0, 2, .ro false (di r.2.h))]) ∧ (r.1.sm) := by
  suffices h0 : ∃ y, Gw TT 352 [.ptr [.ro false (.sl 1 (c.b.map eb)), .ro false (di (c.i : Nat)), .ro false (di c.h)], .one (.ro k0 (.sl 1 (cols.map ei)))] = some y ∧ ∃ r : (XPred) × XCur, y = (.st [.ro false (di r.1.Kind), .ro false (di r.1.Col), .ro false (di r.1.Op), .ro false (di r.1.V.Ty), .ro false (di r.1.V.N), .ro false (.str r.1.V.S), .own (.sl 7 (r.1.L.map XPred.e))], [(0, 0, .ro false (.sl 1 (r.2.b.map eb))), (0, 1, .ro false (di (r.2.i : Nat))), (0, 2, .ro false (di r.2.h))]) ∧ (r.1.sm) by
    obtain ⟨y, h1, r, rfl, h2⟩ := h0
    exact ⟨r, h1, h2⟩
  refine Gw_ofE (F := pf352) rfl rfl ?_
  show Wp _ pb352 _ _
  unfold pb352
  have q := p375 c 3
  obtain ⟨⟨n, c1⟩, hn⟩ : ∃ r, d375 c 3 = r := ⟨_, rfl⟩
  rw [hn] at q
  simp only at q
  have q2 := q.2.1 (by omega)
  obtain ⟨⟨x, c2⟩, ge, gs⟩ := g351 n q.1 (by omega) c1 k0 cols h1 h
  obtain ⟨x_Kind, x_Col, x_Op, ⟨x_V_Ty, x_V_N, x_V_S⟩, x_L⟩ := x
  simp only at ge gs
  have a1 := p348 c2 k0 cols h1 h
  cases hb : okPb cols h ⟨x_Kind, x_Col, x_Op, ⟨x_V_Ty, x_V_N, x_V_S⟩, x_L⟩ k0 true gs with
  | true =>
    repeat' (first
      | with_reducible (first | refine wp_seq ?_ | refine wp_blk ?_ | refine wp_skip ?_ | refine wp_exit ?_ | refine wp_ret ?_ | refine seqQ_norm ?_ | refine seqQ_ret ?_ | refine seqQ_exit ?_ | refine blkQ_norm ?_ | refine blkQ_ret ?_ | refine blkQ_exit ?_ | refine loopQ_norm ?_ | refine loopQ_exit ?_ | refine loopQ_ret ?_ | refine endQ_ret ?_ | refine endQ_norm ?_ | refine endE_ret ?_ | refine endE_norm ?_ | refine endI_ret ?_ | refine endI_norm ?_)
      | (with_reducible refine wp_regK fun K hK => ?_
         simp[hn, ge, h1, h, gs, hb]
         repeat' (with_reducible first | refine hK _ ?_ | (refine psel ?_ ?_ <;> (intro hc; (try rw [Decidable.not_not] at hc); first | (exfalso; omega) | (try simp [hc, hn, ge, h1, h, gs, hb]))))
         all_goals (clear hK; clear K))
      | (with_reducible refine wp_condE ?_
         refine ⟨_, rfl, ?_, ?_⟩ <;> (intro hc; (try simp at hc); (all_goals first | (exfalso; omega) | skip))))
    all_goals first | (exfalso; omega) | (refine ⟨_, by simp [pf352]; rfl, ?_⟩; refine ⟨((⟨x_Kind, x_Col, x_Op, ⟨x_V_Ty, x_V_N, x_V_S⟩, x_L⟩ : XPred), c2), ?_, ?_⟩; (focus (first | (simp; done) | (simp [*]; done))); (focus (exact gs))) | skip
  | false =>
    repeat' (first
      | with_reducible (first | refine wp_seq ?_ | refine wp_blk ?_ | refine wp_skip ?_ | refine wp_exit ?_ | refine wp_ret ?_ | refine seqQ_norm ?_ | refine seqQ_ret ?_ | refine seqQ_exit ?_ | refine blkQ_norm ?_ | refine blkQ_ret ?_ | refine blkQ_exit ?_ | refine loopQ_norm ?_ | refine loopQ_exit ?_ | refine loopQ_ret ?_ | refine endQ_ret ?_ | refine endQ_norm ?_ | refine endE_ret ?_ | refine endE_norm ?_ | refine endI_ret ?_ | refine endI_norm ?_)
      | (with_reducible refine wp_regK fun K hK => ?_
         simp[hn, ge, h1, h, gs, hb]
         repeat' (with_reducible first | refine hK _ ?_ | (refine psel ?_ ?_ <;> (intro hc; (try rw [Decidable.not_not] at hc); first | (exfalso; omega) | (try simp [hc, hn, ge, h1, h, gs, hb]))))
         all_goals (clear hK; clear K))
      | (with_reducible refine wp_condE ?_
         refine ⟨_, rfl, ?_, ?_⟩ <;> (intro hc; (try simp at hc); (all_goals first | (exfalso; omega) | skip))))
    all_goals first | (exfalso; omega) | (refine ⟨_, by simp [pf352]; rfl, ?_⟩; refine ⟨(d348 c2 k0 cols h1 h), ?_, ?_⟩; (focus (first | (simp; done) | (simp [*]; done))); (focus (exact a1))) | skip

noncomputable def d352 (c : XCur) (k0 : Bool) (cols : List Int) (h1 : 1 ≤ cols.length) (h : cols.length ≤ 1000) : (XPred) × XCur := Classical.choose (d352_ex c k0 cols h1 h)

@[simp] theorem t352 (c : XCur) (k0 : Bool) (cols : List Int) (h1 : 1 ≤ cols.length) (h : cols.length ≤ 1000) : Gw TT 352 [.ptr [.ro false (.sl 1 (c.b.map eb)), .ro false (di (c.i : Nat)), .ro false (di c.h)], .one (.ro k0 (.sl 1 (cols.map ei)))] = some (.st [.ro false (di (d352 c k0 cols h1 h).1.Kind), .ro false (di (d352 c k0 cols h1 h).1.Col), .ro false (di (d352 c k0 cols h1 h).1.Op), .ro false (di (d352 c k0 cols h1 h).1.V.Ty), .ro false (di (d352 c k0 cols h1 h).1.V.N), .ro false (.str (d352 c k0 cols h1 h).1.V.S), .own (.sl 7 ((d352 c k0 cols h1 h).1.L.map XPred.e))], [(0, 0, .ro false (.sl 1 ((d352 c k0 cols h1 h).2.b.map eb))), (0, 1, .ro false (di ((d352 c k0 cols h1 h).2.i : Nat))), (0, 2, .ro false (di (d352 c k0 cols h1 h).2.h))]) := (Classical.choose_spec (d352_ex c k0 cols h1 h)).1

theorem p352 (c : XCur) (k0 : Bool) (cols : List Int) (h1 : 1 ≤ cols.length) (h : cols.length ≤ 1000) : (d352 c k0 cols h1 h).1.sm := (Classical.choose_spec (d352_ex c k0 cols h1 h)).2

theorem d354_ex (c : XCur) (k0 : Bool) (cols : List Int) (h1 : 1 ≤ cols.length) (h : cols.length ≤ 1000) : ∃ r : (XQuery) × XCur, Gw TT 354 [.ptr [.ro false (.sl 1 (c.b.map eb)), .ro false (di (c.i : Nat)), .ro false (di c.h)], .one (.ro k0 (.sl 1 (cols.map ei)))] = some (.st [.ro false (di r.1.Kind), .ro false (di r.1.P.Kind), .ro false (di r.1.P.Col), .ro false (di r.1.P.Op), .ro false (di r.1.P.V.Ty), .ro false (di r.1.P.V.N), .ro false (.str r.1.P.V.S), .own (.sl 7 (r.1.P.L.map XPred.e)), .ro false (di r.1.Col), .own (.sl 1 (r.1.Out.map ei))], [(0, 0, .ro false (.sl 1 (r.2.b.map eb))), (0, 1, .ro false (di (r.2.i : Nat))), (0, 2, .ro false (di r.2.h))]) ∧ (r.1.P.sm ∧ r.1.Out.length ≤ 2) := by
  suffices h0 : ∃ y, Gw TT 354 [.ptr [.ro false (.sl 1 (c.b.map eb)), .ro false (di (c.i : Nat)), .ro false (di c.h)], .one (.ro k0 (.sl 1 (cols.map ei)))] = some y ∧ ∃ r : (XQuery) × XCur, y = (.st [.ro false (di r.1.Kind), .ro false (di r.1.P.Kind), .ro false (di r.1.P.Col), .ro false (di r.1.P.Op), .ro false (di r.1.P.V.Ty), .ro false (di r.1.P.V.N), .ro false (.str r.1.P.V.S), .own (.sl 7 (r.1.P.L.map XPred.e)), .ro false (di r.1.Col), .own (.sl 1 (r.1.Out.map ei))], [(0, 0, .ro false (.sl 1 (r.2.b.map eb))), (0, 1, .ro false (di (r.2.i : Nat))), (0, 2, .ro false (di r.2.h))]) ∧ (r.1.P.sm ∧ r.1.Out.length ≤ 2) by
    obtain ⟨y, h1, r, rfl, h2⟩ := h0
    exact ⟨r, h1, h2⟩
  refine Gw_ofE (F := pf354) rfl rfl ?_
  show Wp _ pb354 _ _
  unfold pb354
  obtain ⟨⟨n, c1⟩, hn⟩ : ∃ r, d375 c 5 = r := ⟨_, rfl⟩
  have mp := p352 c1 k0 cols h1 h
  obtain ⟨⟨p, c2⟩, hp⟩ : ∃ r, d352 c1 k0 cols h1 h = r := ⟨_, rfl⟩
  rw [hp] at mp
  simp only at mp
  by_cases z1 : (IntKind.wrap .i64 (1 + n)) = 1
  · have q := p375 c2 2
    have qn : ((d375 c2 2).1.toNat : Int) = (d375 c2 2).1 := Int.toNat_of_nonneg q.1
    have q2 := q.2.1 (by omega)
    have qw : IntKind.wrap .i64 (1 + (d375 c2 2).1) = 1 + (d375 c2 2).1 := wrap_i64 (by omega) (by omega)
    repeat' (first
      | with_reducible (first | refine wp_seq ?_ | refine wp_blk ?_ | refine wp_skip ?_ | refine wp_exit ?_ | refine wp_ret ?_ | refine seqQ_norm ?_ | refine seqQ_ret ?_ | refine seqQ_exit ?_ | refine blkQ_norm ?_ | refine blkQ_ret ?_ | refine blkQ_exit ?_ | refine loopQ_norm ?_ | refine loopQ_exit ?_ | refine loopQ_ret ?_ | refine endQ_ret ?_ | refine endQ_norm ?_ | refine endE_ret ?_ | refine endE_norm ?_ | refine endI_ret ?_ | refine endI_norm ?_)
      | (with_reducible refine wp_regK fun K hK => ?_
         simp[hn, hp, h1, h, z1]
         repeat' (with_reducible first | refine hK _ ?_ | (refine psel ?_ ?_ <;> (intro hc; (try rw [Decidable.not_not] at hc); first | (exfalso; omega) | (try simp [hc, hn, hp, h1, h, z1]))))
         all_goals (clear hK; clear K))
      | (with_reducible refine wp_condE ?_
         refine ⟨_, rfl, ?_, ?_⟩ <;> (intro hc; (try simp at hc); (all_goals first | (exfalso; omega) | skip))))
    refine wp_loopI (σ := Nat × List Int × XCur) (fun s => [(0, AV.bx 0 0, some (Rt.bx [.ro false (.sl 1 (s.2.2.b.map eb)), .ro false (di (s.2.2.i : Nat)), .ro false (di s.2.2.h)])), (1, AV.v k0 (D.sl 1 (cols.map ei)), none), (4, AV.bx 4 0, some (Rt.bx [.ro false (di 0), .ro false (di 0), .ro false (di 0), .ro false (di 0), .ro false (di 0), .ro false (di 0), .ro false (.str ⟨#[]⟩), .own (.sl 7 []), .ro false (di 0), .own (.sl 1 [])])), (5, AV.bx 5 0, some (Rt.bx [.ro false (di 1), .ro false (di p.Kind), .ro false (di p.Col), .ro false (di p.Op), .ro false (di p.V.Ty), .ro false (di p.V.N), .ro false (.str p.V.S), .own (.sl 7 (p.L.map XPred.e)), .ro false (di 0), .own (.sl 1 (s.2.1.map ei))])), (6, AV.v false (di ((s.1 : Nat) : Int)), none)]) (fun s => s.1 + s.2.1.length ≤ 2) (fun s => s.1) ((d375 c2 2).1.toNat + 1, [], (d375 c2 2).2) (by simp [qw, qn]; try omega) (by simp only [List.length_nil]; omega) ?_
    rintro ⟨i, l, c3⟩ g1
    simp only at g1
    unfold pl354_1
    rcases i with _ | i
    · repeat' (first
        | with_reducible (first | refine wp_seq ?_ | refine wp_blk ?_ | refine wp_skip ?_ | refine wp_exit ?_ | refine wp_ret ?_ | refine seqQ_norm ?_ | refine seqQ_ret ?_ | refine seqQ_exit ?_ | refine blkQ_norm ?_ | refine blkQ_ret ?_ | refine blkQ_exit ?_ | refine loopQ_norm ?_ | refine loopQ_exit ?_ | refine loopQ_ret ?_ | refine endQ_ret ?_ | refine endQ_norm ?_ | refine endE_ret ?_ | refine endE_norm ?_ | refine endI_ret ?_ | refine endI_norm ?_)
        | (with_reducible refine wp_regK fun K hK => ?_
           simp[z1]
           repeat' (with_reducible first | refine hK _ ?_ | (refine psel ?_ ?_ <;> (intro hc; (try rw [Decidable.not_not] at hc); first | (exfalso; omega) | (try simp [hc, z1]))))
           all_goals (clear hK; clear K))
        | (with_reducible refine wp_condE ?_
           refine ⟨_, rfl, ?_, ?_⟩ <;> (intro hc; (try simp at hc); (all_goals first | (exfalso; omega) | skip))))
      all_goals first | (exfalso; omega) | (refine ⟨_, by simp [pf354]; rfl, ?_⟩; refine ⟨((⟨1, p, 0, l⟩ : XQuery), c3), ?_, ?_, ?_⟩; (focus (first | (simp; done) | (simp [*]; done))); (focus (exact mp)); (focus (simp only; omega))) | skip
    · have hwi : IntKind.wrap .i64 (i : Int) = (i : Int) := wrap_i64 (by omega) (by omega)
      have hq : (l.length + 1) * 8 ≤ 70368744177664 := by omega
      repeat' (first
        | with_reducible (first | refine wp_seq ?_ | refine wp_blk ?_ | refine wp_skip ?_ | refine wp_exit ?_ | refine wp_ret ?_ | refine seqQ_norm ?_ | refine seqQ_ret ?_ | refine seqQ_exit ?_ | refine blkQ_norm ?_ | refine blkQ_ret ?_ | refine blkQ_exit ?_ | refine loopQ_norm ?_ | refine loopQ_exit ?_ | refine loopQ_ret ?_ | refine endQ_ret ?_ | refine endQ_norm ?_ | refine endE_ret ?_ | refine endE_norm ?_ | refine endI_ret ?_ | refine endI_norm ?_)
        | (with_reducible refine wp_regK fun K hK => ?_
           simp[hwi, hq]
           repeat' (with_reducible first | refine hK _ ?_ | (refine psel ?_ ?_ <;> (intro hc; (try rw [Decidable.not_not] at hc); first | (exfalso; omega) | (try simp [hc, hwi, hq]))))
           all_goals (clear hK; clear K))
        | (with_reducible refine wp_condE ?_
           refine ⟨_, rfl, ?_, ?_⟩ <;> (intro hc; (try simp at hc); (all_goals first | (exfalso; omega) | skip))))
      all_goals first | (exfalso; omega) | (refine ⟨(i, l ++ [(d375 c3 (cols.length : Int)).1], (d375 c3 (cols.length : Int)).2), ?_, ?_, ?_⟩; (focus (first | (simp [hwi]; done) | (simp [*]; done))); (focus (simp only [List.length_append, List.length_cons, List.length_nil]; omega)); (focus (simp; done))) | skip
  · by_cases z3 : (IntKind.wrap .i64 (1 + n)) = 3
    · repeat' (first
        | with_reducible (first | refine wp_seq ?_ | refine wp_blk ?_ | refine wp_skip ?_ | refine wp_exit ?_ | refine wp_ret ?_ | refine seqQ_norm ?_ | refine seqQ_ret ?_ | refine seqQ_exit ?_ | refine blkQ_norm ?_ | refine blkQ_ret ?_ | refine blkQ_exit ?_ | refine loopQ_norm ?_ | refine loopQ_exit ?_ | refine loopQ_ret ?_ | refine endQ_ret ?_ | refine endQ_norm ?_ | refine endE_ret ?_ | refine endE_norm ?_ | refine endI_ret ?_ | refine endI_norm ?_)
        | (with_reducible refine wp_regK fun K hK => ?_
           simp[hn, hp, h1, h, z3]
           repeat' (with_reducible first | refine hK _ ?_ | (refine psel ?_ ?_ <;> (intro hc; (try rw [Decidable.not_not] at hc); first | (exfalso; omega) | (try simp [hc, hn, hp, h1, h, z3]))))
           all_goals (clear hK; clear K))
        | (with_reducible refine wp_condE ?_
           refine ⟨_, rfl, ?_, ?_⟩ <;> (intro hc; (try simp at hc); (all_goals first | (exfalso; omega) | skip))))
      refine wp_loopI (σ := Nat × Int) (fun s => [(0, AV.bx 0 0, some (Rt.bx [.ro false (.sl 1 (c2.b.map eb)), .ro false (di (c2.i : Nat)), .ro false (di c2.h)])), (1, AV.v k0 (D.sl 1 (cols.map ei)), none), (4, AV.bx 4 0, some (Rt.bx [.ro false (di 0), .ro false (di 0), .ro false (di 0), .ro false (di 0), .ro false (di 0), .ro false (di 0), .ro false (.str ⟨#[]⟩), .own (.sl 7 []), .ro false (di 0), .own (.sl 1 [])])), (5, AV.bx 5 0, some (Rt.bx [.ro false (di 3), .ro false (di p.Kind), .ro false (di p.Col), .ro false (di p.Op), .ro false (di p.V.Ty), .ro false (di p.V.N), .ro false (.str p.V.S), .own (.sl 7 (p.L.map XPred.e)), .ro false (di 0), .own (.sl 1 (([] : List Int).map ei))])), (7, AV.v false (di s.2), none), (8, AV.v false (di ((s.1 : Nat) : Int)), none)]) (fun s => s.1 ≤ cols.length) (fun s => cols.length - s.1) (0, -1) (by simp) (Nat.zero_le _) ?_
      rintro ⟨i, k⟩ g1
      simp only at g1
      unfold pl354_0
      by_cases g2 : i < cols.length
      · obtain ⟨w, w1⟩ : ∃ w, cols[i]? = some w := ⟨_, List.getElem?_eq_getElem g2⟩
        obtain ⟨w2, w3⟩ := List.getElem?_eq_some_iff.1 w1
        have g3 : (i : Int) < (cols.length : Int) := by omega
        have hwi : IntKind.wrap .i64 ((i : Int) + 1) = (i : Int) + 1 := wrap_i64 (by omega) (by omega)
        by_cases zw : w = 1
        · repeat' (first
            | with_reducible (first | refine wp_seq ?_ | refine wp_blk ?_ | refine wp_skip ?_ | refine wp_exit ?_ | refine wp_ret ?_ | refine seqQ_norm ?_ | refine seqQ_ret ?_ | refine seqQ_exit ?_ | refine blkQ_norm ?_ | refine blkQ_ret ?_ | refine blkQ_exit ?_ | refine loopQ_norm ?_ | refine loopQ_exit ?_ | refine loopQ_ret ?_ | refine endQ_ret ?_ | refine endQ_norm ?_ | refine endE_ret ?_ | refine endE_norm ?_ | refine endI_ret ?_ | refine endI_norm ?_)
            | (with_reducible refine wp_regK fun K hK => ?_
               simp[hwi, g2, g3, w1, w3, zw]
               repeat' (with_reducible first | refine hK _ ?_ | (refine psel ?_ ?_ <;> (intro hc; (try rw [Decidable.not_not] at hc); first | (exfalso; omega) | (try simp [hc, hwi, g2, g3, w1, w3, zw]))))
               all_goals (clear hK; clear K))
            | (with_reducible refine wp_condE ?_
               refine ⟨_, rfl, ?_, ?_⟩ <;> (intro hc; (try simp at hc); (all_goals first | (exfalso; omega) | skip))))
          all_goals first | (exfalso; omega) | exact ⟨(i + 1, (i : Int)), by simp, by simp only; omega, by simp only; omega⟩ | skip
        · repeat' (first
            | with_reducible (first | refine wp_seq ?_ | refine wp_blk ?_ | refine wp_skip ?_ | refine wp_exit ?_ | refine wp_ret ?_ | refine seqQ_norm ?_ | refine seqQ_ret ?_ | refine seqQ_exit ?_ | refine blkQ_norm ?_ | refine blkQ_ret ?_ | refine blkQ_exit ?_ | refine loopQ_norm ?_ | refine loopQ_exit ?_ | refine loopQ_ret ?_ | refine endQ_ret ?_ | refine endQ_norm ?_ | refine endE_ret ?_ | refine endE_norm ?_ | refine endI_ret ?_ | refine endI_norm ?_)
            | (with_reducible refine wp_regK fun K hK => ?_
               simp[hwi, g2, g3, w1, w3, zw]
               repeat' (with_reducible first | refine hK _ ?_ | (refine psel ?_ ?_ <;> (intro hc; (try rw [Decidable.not_not] at hc); first | (exfalso; omega) | (try simp [hc, hwi, g2, g3, w1, w3, zw]))))
               all_goals (clear hK; clear K))
            | (with_reducible refine wp_condE ?_
               refine ⟨_, rfl, ?_, ?_⟩ <;> (intro hc; (try simp at hc); (all_goals first | (exfalso; omega) | skip))))
          all_goals first | (exfalso; omega) | exact ⟨(i + 1, k), by simp, by simp only; omega, by simp only; omega⟩ | skip
      · have g3 : ¬ (i : Int) < (cols.length : Int) := by omega
        by_cases zk : k < 0
        · repeat' (first
            | with_reducible (first | refine wp_seq ?_ | refine wp_blk ?_ | refine wp_skip ?_ | refine wp_exit ?_ | refine wp_ret ?_ | refine seqQ_norm ?_ | refine seqQ_ret ?_ | refine seqQ_exit ?_ | refine blkQ_norm ?_ | refine blkQ_ret ?_ | refine blkQ_exit ?_ | refine loopQ_norm ?_ | refine loopQ_exit ?_ | refine loopQ_ret ?_ | refine endQ_ret ?_ | refine endQ_norm ?_ | refine endE_ret ?_ | refine endE_norm ?_ | refine endI_ret ?_ | refine endI_norm ?_)
            | (with_reducible refine wp_regK fun K hK => ?_
               simp[g3, zk]
               repeat' (with_reducible first | refine hK _ ?_ | (refine psel ?_ ?_ <;> (intro hc; (try rw [Decidable.not_not] at hc); first | (exfalso; omega) | (try simp [hc, g3, zk]))))
               all_goals (clear hK; clear K))
            | (with_reducible refine wp_condE ?_
               refine ⟨_, rfl, ?_, ?_⟩ <;> (intro hc; (try simp at hc); (all_goals first | (exfalso; omega) | skip))))
          all_goals first | (exfalso; omega) | (refine ⟨_, by simp [pf354]; rfl, ?_⟩; refine ⟨((⟨2, p, 0, []⟩ : XQuery), c2), ?_, ?_, ?_⟩; (focus (first | (simp; done) | (simp [*]; done))); (focus (exact mp)); (focus (simp))) | skip
        · repeat' (first
            | with_reducible (first | refine wp_seq ?_ | refine wp_blk ?_ | refine wp_skip ?_ | refine wp_exit ?_ | refine wp_ret ?_ | refine seqQ_norm ?_ | refine seqQ_ret ?_ | refine seqQ_exit ?_ | refine blkQ_norm ?_ | refine blkQ_ret ?_ | refine blkQ_exit ?_ | refine loopQ_norm ?_ | refine loopQ_exit ?_ | refine loopQ_ret ?_ | refine endQ_ret ?_ | refine endQ_norm ?_ | refine endE_ret ?_ | refine endE_norm ?_ | refine endI_ret ?_ | refine endI_norm ?_)
            | (with_reducible refine wp_regK fun K hK => ?_
               simp[g3, zk]
               repeat' (with_reducible first | refine hK _ ?_ | (refine psel ?_ ?_ <;> (intro hc; (try rw [Decidable.not_not] at hc); first | (exfalso; omega) | (try simp [hc, g3, zk]))))
               all_goals (clear hK; clear K))
            | (with_reducible refine wp_condE ?_
               refine ⟨_, rfl, ?_, ?_⟩ <;> (intro hc; (try simp at hc); (all_goals first | (exfalso; omega) | skip))))
          all_goals first | (exfalso; omega) | (refine ⟨_, by simp [pf354]; rfl, ?_⟩; refine ⟨((⟨3, p, k, []⟩ : XQuery), c2), ?_, ?_, ?_⟩; (focus (first | (simp; done) | (simp [*]; done))); (focus (exact mp)); (focus (simp))) | skip
    · by_cases z4 : (IntKind.wrap .i64 (1 + n)) = 4
      · repeat' (first
          | with_reducible (first | refine wp_seq ?_ | refine wp_blk ?_ | refine wp_skip ?_ | refine wp_exit ?_ | refine wp_ret ?_ | refine seqQ_norm ?_ | refine seqQ_ret ?_ | refine seqQ_exit ?_ | refine blkQ_norm ?_ | refine blkQ_ret ?_ | refine blkQ_exit ?_ | refine loopQ_norm ?_ | refine loopQ_exit ?_ | refine loopQ_ret ?_ | refine endQ_ret ?_ | refine endQ_norm ?_ | refine endE_ret ?_ | refine endE_norm ?_ | refine endI_ret ?_ | refine endI_norm ?_)
          | (with_reducible refine wp_regK fun K hK => ?_
             simp[hn, hp, h1, h, z4]
             repeat' (with_reducible first | refine hK _ ?_ | (refine psel ?_ ?_ <;> (intro hc; (try rw [Decidable.not_not] at hc); first | (exfalso; omega) | (try simp [hc, hn, hp, h1, h, z4]))))
             all_goals (clear hK; clear K))
          | (with_reducible refine wp_condE ?_
             refine ⟨_, rfl, ?_, ?_⟩ <;> (intro hc; (try simp at hc); (all_goals first | (exfalso; omega) | skip))))
        all_goals first | (exfalso; omega) | (refine ⟨_, by simp [pf354]; rfl, ?_⟩; refine ⟨((⟨4, p, (d375 c2 (cols.length : Int)).1, []⟩ : XQuery), (d375 c2 (cols.length : Int)).2), ?_, ?_, ?_⟩; (focus (first | (simp; done) | (simp [*]; done))); (focus (exact mp)); (focus (simp))) | skip
      · by_cases z5 : (IntKind.wrap .i64 (1 + n)) = 5
        · repeat' (first
            | with_reducible (first | refine wp_seq ?_ | refine wp_blk ?_ | refine wp_skip ?_ | refine wp_exit ?_ | refine wp_ret ?_ | refine seqQ_norm ?_ | refine seqQ_ret ?_ | refine seqQ_exit ?_ | refine blkQ_norm ?_ | refine blkQ_ret ?_ | refine blkQ_exit ?_ | refine loopQ_norm ?_ | refine loopQ_exit ?_ | refine loopQ_ret ?_ | refine endQ_ret ?_ | refine endQ_norm ?_ | refine endE_ret ?_ | refine endE_norm ?_ | refine endI_ret ?_ | refine endI_norm ?_)
            | (with_reducible refine wp_regK fun K hK => ?_
               simp[hn, hp, h1, h, z5]
               repeat' (with_reducible first | refine hK _ ?_ | (refine psel ?_ ?_ <;> (intro hc; (try rw [Decidable.not_not] at hc); first | (exfalso; omega) | (try simp [hc, hn, hp, h1, h, z5]))))
               all_goals (clear hK; clear K))
            | (with_reducible refine wp_condE ?_
               refine ⟨_, rfl, ?_, ?_⟩ <;> (intro hc; (try simp at hc); (all_goals first | (exfalso; omega) | skip))))
          all_goals first | (exfalso; omega) | (refine ⟨_, by simp [pf354]; rfl, ?_⟩; refine ⟨((⟨5, p, (d375 c2 (cols.length : Int)).1, []⟩ : XQuery), (d375 c2 (cols.length : Int)).2), ?_, ?_, ?_⟩; (focus (first | (simp; done) | (simp [*]; done))); (focus (exact mp)); (focus (simp))) | skip
        · repeat' (first
            | with_reducible (first | refine wp_seq ?_ | refine wp_blk ?_ | refine wp_skip ?_ | refine wp_exit ?_ | refine wp_ret ?_ | refine seqQ_norm ?_ | refine seqQ_ret ?_ | refine seqQ_exit ?_ | refine blkQ_norm ?_ | refine blkQ_ret ?_ | refine blkQ_exit ?_ | refine loopQ_norm ?_ | refine loopQ_exit ?_ | refine loopQ_ret ?_ | refine endQ_ret ?_ | refine endQ_norm ?_ | refine endE_ret ?_ | refine endE_norm ?_ | refine endI_ret ?_ | refine endI_norm ?_)
            | (with_reducible refine wp_regK fun K hK => ?_
               simp[hn, hp, h1, h, z1, z3, z4, z5]
               repeat' (with_reducible first | refine hK _ ?_ | (refine psel ?_ ?_ <;> (intro hc; (try rw [Decidable.not_not] at hc); first | (exfalso; omega) | (try simp [hc, hn, hp, h1, h, z1, z3, z4, z5]))))
               all_goals (clear hK; clear K))
            | (with_reducible refine wp_condE ?_
               refine ⟨_, rfl, ?_, ?_⟩ <;> (intro hc; (try simp at hc); (all_goals first | (exfalso; omega) | skip))))
          all_goals first | (exfalso; omega) | (refine ⟨_, by simp [pf354]; rfl, ?_⟩; refine ⟨((⟨(IntKind.wrap .i64 (1 + n)), p, 0, []⟩ : XQuery), c2), ?_, ?_, ?_⟩; (focus (first | (simp; done) | (simp [*]; done))); (focus (exact mp)); (focus (simp))) | skip

noncomputable def d354 (c : XCur) (k0 : Bool) (cols : List Int) (h1 : 1 ≤ cols.length) (h : cols.length ≤ 1000) : (XQuery) × XCur := Classical.choose (d354_ex c k0 cols h1 h)

@[simp] theorem t354 (c : XCur) (k0 : Bool) (cols : List Int) (h1 : 1 ≤ cols.length) (h : cols.length ≤ 1000) : Gw TT 354 [.ptr [.ro false (.sl 1 (c.b.map eb)), .ro false (di (c.i : Nat)), .ro false (di c.h)], .one (.ro k0 (.sl 1 (cols.map ei)))] = some (.st [.ro false (di (d354 c k0 cols h1 h).1.Kind), .ro false (di (d354 c k0 cols h1 h).1.P.Kind), .ro false (di (d354 c k0 cols h1 h).1.P.Col), .ro false (di (d354 c k0 cols h1 h).1.P.Op), .ro false (di (d354 c k0 cols h1 h).1.P.V.Ty), .ro false (di (d354 c k0 cols h1 h).1.P.V.N), .ro false (.str (d354 c k0 cols h1 h).1.P.V.S), .own (.sl 7 ((d354 c k0 cols h1 h).1.P.L.map XPred.e)), .ro false (di (d354 c k0 cols h1 h).1.Col), .own (.sl 1 ((d354 c k0 cols h1 h).1.Out.map ei))], [(0, 0, .ro false (.sl 1 ((d354 c k0 cols h1 h).2.b.map eb))), (0, 1, .ro false (di ((d354 c k0 cols h1 h).2.i : Nat))), (0, 2, .ro false (di (d354 c k0 cols h1 h).2.h))]) := (Classical.choose_spec (d354_ex c k0 cols h1 h)).1

theorem p354 (c : XCur) (k0 : Bool) (cols : List Int) (h1 : 1 ≤ cols.length) (h : cols.length ≤ 1000) : (d354 c k0 cols h1 h).1.P.sm ∧ (d354 c k0 cols h1 h).1.Out.length ≤ 2 := (Classical.choose_spec (d354_ex c k0 cols h1 h)).2

/-- By key, then by number. -/
def slt (ky : Int → Int) (x y : Int) : Prop := ky x < ky y ∨ (ky x = ky y ∧ x < y)
def Srt (ky : Int → Int) (l : List Int) : Prop := l.Pairwise (slt ky)

def icmp (x y : Int) : Int := if x < y then -1 else if y < x then 1 else 0
theorem icmp_neg (x y : Int) : icmp x y < 0 ↔ x < y := by unfold icmp; split <;> (try split) <;> omega

theorem slt.trans {ky : Int → Int} {x y z : Int} (h1 : slt ky x y) (h2 : slt ky y z) : slt ky x z := by unfold slt at *; omega
theorem slt.irrefl {ky : Int → Int} {x : Int} : ¬ slt ky x x := by unfold slt; omega
theorem slt.asymm {ky : Int → Int} {x y : Int} (h : slt ky x y) : ¬ slt ky y x := by unfold slt at *; omega
theorem slt.le {ky : Int → Int} {x y : Int} (h : slt ky x y) : ky x ≤ ky y := by unfold slt at h; omega
theorem slt_of_lt {ky : Int → Int} {x y : Int} (h : ky x < ky y) : slt ky x y := .inl h
theorem slt_of_le {ky : Int → Int} {x y : Int} (h : ky x ≤ ky y) (h2 : x < y) : slt ky x y := by unfold slt; omega

theorem srt_ins {ky : Int → Int} {U V : List Int} {x : Int} (h : Srt ky (U ++ V)) (h1 : ∀ v ∈ V, slt ky x v) (h2 : ∀ u ∈ U, slt ky u x) : Srt ky (U ++ x :: V) := by
  unfold Srt at *
  rw [List.pairwise_append] at h ⊢
  refine ⟨h.1, List.pairwise_cons.2 ⟨h1, h.2.1⟩, fun a ha b hb => ?_⟩
  rcases List.mem_cons.1 hb with rfl | hb
  · exact h2 a ha
  · exact h.2.2 a ha b hb

theorem srt_app {ky : Int → Int} {A B : List Int} (h1 : Srt ky A) (h2 : Srt ky B) (h : ∀ a ∈ A, ∀ b ∈ B, slt ky a b) : Srt ky (A ++ B) :=
  List.pairwise_append.2 ⟨h1, h2, h⟩
theorem Srt.left {ky : Int → Int} {A B : List Int} (h : Srt ky (A ++ B)) : Srt ky A := (List.pairwise_append.1 h).1
theorem Srt.right {ky : Int → Int} {A B : List Int} (h : Srt ky (A ++ B)) : Srt ky B := (List.pairwise_append.1 h).2.1
theorem Srt.cross {ky : Int → Int} {A B : List Int} (h : Srt ky (A ++ B)) : ∀ a ∈ A, ∀ b ∈ B, slt ky a b := (List.pairwise_append.1 h).2.2

/-- One list has the elements of both, in order: there is one such list only. -/
theorem srt_unique {ky : Int → Int} : ∀ {A B : List Int}, A.Perm B → Srt ky A → Srt ky B → A = B := by
  intro A
  induction A with
  | nil => intro B h _ _; exact (List.nil_perm.1 h).symm
  | cons a A ih =>
    intro B h h1 h2
    cases B with
    | nil => exact absurd (List.perm_nil.1 h) (by simp)
    | cons b B =>
      have e : a = b := by
        unfold Srt at h1 h2
        rw [List.pairwise_cons] at h1 h2
        have ha := h.subset (List.mem_cons_self (a := a) (l := A))
        have hb := h.symm.subset (List.mem_cons_self (a := b) (l := B))
        rcases List.mem_cons.1 ha with e | ha
        · exact e
        · rcases List.mem_cons.1 hb with e | hb
          · exact e.symm
          · exact absurd (h1.1 b hb) (h2.1 a ha).asymm
      subst e
      unfold Srt at h1 h2
      rw [List.pairwise_cons] at h1 h2
      rw [ih ((List.perm_cons _).1 h) h1.2 h2.2]

/-- Two merges side by side are one merge. -/
theorem srt_merge {ky : Int → Int} {L1 L2 R1 R2 A B : List Int} (hL : Srt ky (L1 ++ L2)) (hR : Srt ky (R1 ++ R2)) (h1 : A.Perm (L1 ++ R1)) (h2 : Srt ky A) (h3 : B.Perm (L2 ++ R2)) (h4 : Srt ky B)
    (h5 : ∀ x ∈ L1, ∀ y ∈ R2, slt ky x y) (h6 : ∀ x ∈ R1, ∀ y ∈ L2, slt ky x y) : Srt ky (A ++ B) ∧ (A ++ B).Perm ((L1 ++ L2) ++ (R1 ++ R2)) := by
  refine ⟨srt_app h2 h4 fun x hx y hy => ?_, ?_⟩
  · rcases List.mem_append.1 (h1.subset hx) with hx | hx <;> rcases List.mem_append.1 (h3.subset hy) with hy | hy
    · exact hL.cross x hx y hy
    · exact h5 x hx y hy
    · exact h6 x hx y hy
    · exact hR.cross x hx y hy
  · refine (h1.append h3).trans ?_
    simp only [List.append_assoc]
    refine List.Perm.append_left _ ?_
    rw [← List.append_assoc, ← List.append_assoc]
    exact List.Perm.append_right _ List.perm_append_comm

/-- In a sorted list the elements up to one whose key is at most k have keys of at most k. -/
theorem srt_upto {ky : Int → Int} {A : List Int} {x y : Int} (h : Srt ky (A ++ [x])) (hy : y ∈ A ++ [x]) : ky y ≤ ky x := by
  rcases List.mem_append.1 hy with hy | hy
  · exact (h.cross y hy x (by simp)).le
  · simp at hy; subst hy; exact Int.le_refl _

/-- Two cells changed for one another. -/
theorem sw_mid (P Q S : List Int) (x y : Int) : ((P ++ x :: (Q ++ y :: S)).set P.length y).set (P.length + 1 + Q.length) x = P ++ y :: (Q ++ x :: S) := by
  rw [set_mid P _ x y rfl]
  rw [show P ++ y :: (Q ++ y :: S) = (P ++ y :: Q) ++ y :: S by simp, set_mid (P ++ y :: Q) S y x (by simp; omega)]
  simp
theorem sw_adj (P S : List Int) (x y : Int) : ((P ++ x :: y :: S).set P.length y).set (P.length + 1) x = P ++ y :: x :: S := by
  simp
theorem sw_adj' (P S : List Int) (x y : Int) : ((P ++ x :: y :: S).set (P.length + 1) x).set P.length y = P ++ y :: x :: S := by
  rw [show P ++ x :: y :: S = (P ++ [x]) ++ y :: S by simp, set_mid (P ++ [x]) S y x (by simp)]
  rw [show (P ++ [x]) ++ x :: S = P ++ x :: (x :: S) by simp, set_mid P _ x y rfl]

/-- What the comparison answers. -/
def CmpOk (g : Nat) (c : D) (ky : Int → Int) (p : Int → Prop) : Prop :=
  ∀ a b, p a → p b → Gw TT g [vi a, vi b, .one (.ro true (.rp [c]))] = some (vi (icmp (ky a) (ky b)), [])

abbrev fv (g : Nat) (c : D) : V := .one (.ro true (.fn g [c]))
abbrev dat (l : List Int) : V := .one (.own (.sl 1 (l.map ei)))
abbrev lft (l : List Int) : V × List (Nat × Nat × C) := (.tup [], [(0, 0, .own (.sl 1 (l.map ei)))])

theorem s406 {g : Nat} {c : D} {ky : Int → Int} {p : Int → Prop} (hcmp : CmpOk g c ky p) (P W S : List Int) (hp : ∀ x ∈ W, p x) (hlen : (P ++ W ++ S).length ≤ 1099511627776) (hW : W.Pairwise (· < ·)) :
    ∃ W', W'.Perm W ∧ Srt ky W' ∧ Gw TT 406 [dat (P ++ W ++ S), vi P.length, vi (P.length + W.length), fv g c] = some (lft (P ++ W' ++ S)) := by
  suffices h : ∃ y, Gw TT 406 [dat (P ++ W ++ S), vi P.length, vi (P.length + W.length), fv g c] = some y ∧ ∃ W', W'.Perm W ∧ Srt ky W' ∧ y = lft (P ++ W' ++ S) by
    obtain ⟨y, h1, W', h2, h3, rfl⟩ := h
    exact ⟨W', h2, h3, h1⟩
  refine Gw_ofE (F := pf406) rfl rfl ?_
  show Wp _ pb406 _ _
  unfold pb406
  simp only [List.length_append] at hlen
  have hw0 : IntKind.wrap .i64 ((P.length : Int) + 1) = (P.length : Int) + 1 := wrap_i64 (by omega) (by omega)
  rcases W with _ | ⟨x0, W⟩
  · have hn : ¬ ((P.length : Int) + 1 < (P.length : Int) + ((0 : Nat) : Int)) := by omega
    repeat' (first
      | with_reducible (first | refine wp_seq ?_ | refine wp_blk ?_ | refine wp_skip ?_ | refine wp_exit ?_ | refine wp_ret ?_ | refine seqQ_norm ?_ | refine seqQ_ret ?_ | refine seqQ_exit ?_ | refine blkQ_norm ?_ | refine blkQ_ret ?_ | refine blkQ_exit ?_ | refine loopQ_norm ?_ | refine loopQ_exit ?_ | refine loopQ_ret ?_ | refine endQ_ret ?_ | refine endQ_norm ?_ | refine endE_ret ?_ | refine endE_norm ?_ | refine endI_ret ?_ | refine endI_norm ?_)
      | (with_reducible refine wp_loop (c := pl406_1) ?_
         conv => arg 2; unfold pl406_1)
      | (with_reducible refine wp_regK fun K hK => ?_
         simp[hw0, hn]
         repeat' (with_reducible first | refine hK _ ?_ | (refine psel ?_ ?_ <;> (intro hc; (try rw [Decidable.not_not] at hc); first | (exfalso; omega) | (try simp [hc, hw0, hn]))))
         all_goals (clear hK; clear K))
      | (with_reducible refine wp_condE ?_
         refine ⟨_, rfl, ?_, ?_⟩ <;> (intro hc; (try simp at hc); (all_goals first | (exfalso; omega) | skip))))
    all_goals exact ⟨_, rfl, [], by simp, by simp [Srt], by simp⟩
  generalize hW0 : x0 :: W = W0 at *
  have hb : (P.length : Int) + W0.length = (P.length : Int) + 1 + W.length := by subst hW0; simp; omega
  repeat' (first
    | with_reducible (first | refine wp_seq ?_ | refine wp_blk ?_ | refine wp_skip ?_ | refine wp_exit ?_ | refine wp_ret ?_ | refine seqQ_norm ?_ | refine seqQ_ret ?_ | refine seqQ_exit ?_ | refine blkQ_norm ?_ | refine blkQ_ret ?_ | refine blkQ_exit ?_ | refine loopQ_norm ?_ | refine loopQ_exit ?_ | refine loopQ_ret ?_ | refine endQ_ret ?_ | refine endQ_norm ?_ | refine endE_ret ?_ | refine endE_norm ?_ | refine endI_ret ?_ | refine endI_norm ?_)
    | (with_reducible refine wp_regK fun K hK => ?_
       simp[hw0]
       repeat' (with_reducible first | refine hK _ ?_ | (refine psel ?_ ?_ <;> (intro hc; (try rw [Decidable.not_not] at hc); first | (exfalso; omega) | (try simp [hc, hw0]))))
       all_goals (clear hK; clear K))
    | (with_reducible refine wp_condE ?_
       refine ⟨_, rfl, ?_, ?_⟩ <;> (intro hc; (try simp at hc); (all_goals first | (exfalso; omega) | skip))))
  refine wp_loopI (σ := List Int × List Int) (fun s => [(0, AV.pl 0 0 [], some (Rt.vir [C.own (D.sl 1 ((P ++ s.1 ++ s.2 ++ S).map ei))])), (1, AV.v false (di P.length), none), (2, AV.v false (di (P.length + W0.length)), none), (3, AV.v true (.fn g [c]), none), (8, AV.v false (di (P.length + s.1.length)), none)])
    (fun s => ∃ U, W0 = U ++ s.2 ∧ s.1.Perm U ∧ Srt ky s.1 ∧ s.1 ≠ []) (fun s => s.2.length) ([x0], W) (by simp [← hW0]) ⟨[x0], by simp [← hW0], .refl _, by simp [Srt], by simp⟩ ?_
  rintro ⟨Dn, R⟩ ⟨U, h1, h2, h3, h4⟩
  simp only at h1 h2 h3 h4
  have hDU := h2.length_eq
  have hl : W0.length = Dn.length + R.length := by rw [h1]; simp [hDU]
  unfold pl406_1
  rcases R with _ | ⟨x, R⟩
  · have hn : ¬ ((P.length : Int) + Dn.length < (P.length : Int) + W0.length) := by simp at hl; omega
    repeat' (first
      | with_reducible (first | refine wp_seq ?_ | refine wp_blk ?_ | refine wp_skip ?_ | refine wp_exit ?_ | refine wp_ret ?_ | refine seqQ_norm ?_ | refine seqQ_ret ?_ | refine seqQ_exit ?_ | refine blkQ_norm ?_ | refine blkQ_ret ?_ | refine blkQ_exit ?_ | refine loopQ_norm ?_ | refine loopQ_exit ?_ | refine loopQ_ret ?_ | refine endQ_ret ?_ | refine endQ_norm ?_ | refine endE_ret ?_ | refine endE_norm ?_ | refine endI_ret ?_ | refine endI_norm ?_)
      | (with_reducible refine wp_regK fun K hK => ?_
         simp[hn]
         repeat' (with_reducible first | refine hK _ ?_ | (refine psel ?_ ?_ <;> (intro hc; (try rw [Decidable.not_not] at hc); first | (exfalso; omega) | (try simp [hc, hn]))))
         all_goals (clear hK; clear K))
      | (with_reducible refine wp_condE ?_
         refine ⟨_, rfl, ?_, ?_⟩ <;> (intro hc; (try simp at hc); (all_goals first | (exfalso; omega) | skip))))
    all_goals exact ⟨_, by simp [pf406]; rfl, Dn, by simpa [h1] using h2, h3, by simp⟩
  · simp only [List.length_cons] at hl
    have hn : ((P.length : Int) + Dn.length < (P.length : Int) + W0.length) := by omega
    repeat' (first
      | with_reducible (first | refine wp_seq ?_ | refine wp_blk ?_ | refine wp_skip ?_ | refine wp_exit ?_ | refine wp_ret ?_ | refine seqQ_norm ?_ | refine seqQ_ret ?_ | refine seqQ_exit ?_ | refine blkQ_norm ?_ | refine blkQ_ret ?_ | refine blkQ_exit ?_ | refine loopQ_norm ?_ | refine loopQ_exit ?_ | refine loopQ_ret ?_ | refine endQ_ret ?_ | refine endQ_norm ?_ | refine endE_ret ?_ | refine endE_norm ?_ | refine endI_ret ?_ | refine endI_norm ?_)
      | (with_reducible refine wp_regK fun K hK => ?_
         simp[hn]
         repeat' (with_reducible first | refine hK _ ?_ | (refine psel ?_ ?_ <;> (intro hc; (try rw [Decidable.not_not] at hc); first | (exfalso; omega) | (try simp [hc, hn]))))
         all_goals (clear hK; clear K))
      | (with_reducible refine wp_condE ?_
         refine ⟨_, rfl, ?_, ?_⟩ <;> (intro hc; (try simp at hc); (all_goals first | (exfalso; omega) | skip))))
    refine wp_loopI (σ := List Int × List Int) (fun s => [(0, AV.pl 0 0 [], some (Rt.vir [C.own (D.sl 1 ((P ++ s.1 ++ x :: s.2 ++ R ++ S).map ei))])), (1, AV.v false (di P.length), none), (2, AV.v false (di (P.length + W0.length)), none), (3, AV.v true (.fn g [c]), none), (8, AV.v false (di (P.length + Dn.length)), none), (9, AV.v false (di (P.length + s.1.length)), none)])
      (fun s => Dn = s.1 ++ s.2 ∧ ∀ v ∈ s.2, ky x < ky v) (fun s => s.1.length) (Dn, []) (by simp) ⟨by simp, by simp⟩ ?_
    rintro ⟨A, B⟩ ⟨k1, k2⟩
    simp only at k1 k2
    have hw1 : IntKind.wrap .i64 ((P.length : Int) + Dn.length + 1) = (P.length : Int) + Dn.length + 1 := wrap_i64 (by omega) (by omega)
    have hxU : ∀ u ∈ Dn, u < x := fun u hu => (List.pairwise_append.1 (h1 ▸ hW)).2.2 u (h2.subset hu) x (by simp)
    have hpx : p x := hp x (by rw [h1]; simp)
    have hfin : (∀ u ∈ A, slt ky u x) → ∃ U2, W0 = U2 ++ R ∧ (A ++ x :: B).Perm U2 ∧ Srt ky (A ++ x :: B) ∧ A ++ x :: B ≠ [] := fun hA =>
      ⟨U ++ [x], by simp [h1], by
        refine (List.perm_middle).trans (.trans ?_ (List.perm_append_singleton x U).symm)
        rw [← k1]; exact h2.cons x, srt_ins (by rw [← k1]; exact h3) (fun v hv => .inl (k2 v hv)) hA, by simp⟩
    unfold pl406_0
    rcases List.eq_nil_or_concat A with rfl | ⟨A, y, rfl⟩
    · have hn2 : ¬ ((P.length : Int) + ((0 : Nat) : Int) > (P.length : Int)) := by omega
      repeat' (first
        | with_reducible (first | refine wp_seq ?_ | refine wp_blk ?_ | refine wp_skip ?_ | refine wp_exit ?_ | refine wp_ret ?_ | refine seqQ_norm ?_ | refine seqQ_ret ?_ | refine seqQ_exit ?_ | refine blkQ_norm ?_ | refine blkQ_ret ?_ | refine blkQ_exit ?_ | refine loopQ_norm ?_ | refine loopQ_exit ?_ | refine loopQ_ret ?_ | refine endQ_ret ?_ | refine endQ_norm ?_ | refine endE_ret ?_ | refine endE_norm ?_ | refine endI_ret ?_ | refine endI_norm ?_)
        | (with_reducible refine wp_regK fun K hK => ?_
           simp[hn2]
           repeat' (with_reducible first | refine hK _ ?_ | (refine psel ?_ ?_ <;> (intro hc; (try rw [Decidable.not_not] at hc); first | (exfalso; omega) | (try simp [hc, hn2]))))
           all_goals (clear hK; clear K))
        | (with_reducible refine wp_condE ?_
           refine ⟨_, rfl, ?_, ?_⟩ <;> (intro hc; (try simp at hc); (all_goals first | (exfalso; omega) | skip))))
      all_goals exact ⟨(x :: B, R), by simp only [hw1]; simp [k1]; omega, hfin (by simp), by simp⟩
    · simp only [List.concat_eq_append, List.append_assoc, List.cons_append, List.nil_append] at k1 hfin ⊢
      have hpy : p y := hp y (by rw [h1]; exact List.mem_append_left _ (h2.subset (by rw [k1]; simp)))
      have hcx := hcmp x y hpx hpy
      have hyx : y < x := hxU y (by rw [k1]; simp)
      have e1 : P ++ (A ++ y :: x :: (B ++ (R ++ S))) = (P ++ A) ++ y :: x :: (B ++ (R ++ S)) := by simp
      have e2 : (P.length : Int) + ((A ++ [y]).length : Nat) = ((P ++ A).length : Int) + 1 := by simp; omega
      have e3 : (P.length : Int) < ((P ++ A).length : Int) + 1 := by simp; omega
      have e4 : ((P ++ A).length : Int) = P.length + A.length := by simp
      have e5 : (P ++ A).length ≤ 1099511627776 := by simp; rw [k1] at hl; simp at hl; omega
      simp only [e1, e2]
      generalize hQ : P ++ A = Q at e3 e4 e5 ⊢
      generalize hZ : B ++ (R ++ S) = Z
      have hw2 : IntKind.wrap .i64 ((Q.length : Int) + 1 - 1) = (Q.length : Int) := by rw [Int.add_sub_cancel]; exact wrap_i64 (by omega) (by omega)
      have hw3 : IntKind.wrap .i64 (Q.length : Int) = (Q.length : Int) := wrap_i64 (by omega) (by omega)
      have hg1 : (Q.map ei ++ [di y] :: [di x] :: Z.map ei)[Q.length + 1]? = some [di x] := by rw [show Q.map ei ++ [di y] :: [di x] :: Z.map ei = (Q.map ei ++ [[di y]]) ++ [di x] :: Z.map ei by simp]; exact get_mid _ _ _ (by simp)
      have hs1 : (Q.map ei ++ [di y] :: [di x] :: Z.map ei).set (Q.length + 1) [di y] = Q.map ei ++ [di y] :: [di y] :: Z.map ei := by rw [show Q.map ei ++ [di y] :: [di x] :: Z.map ei = (Q.map ei ++ [[di y]]) ++ [di x] :: Z.map ei by simp, set_mid _ _ _ _ (by simp)]; simp
      have hb1 : (Q.length : Int) < (Q.length : Int) + ((Z.length : Int) + 1 + 1) := by omega
      have hb2 : (Q.length : Int) + 1 < (Q.length : Int) + ((Z.length : Int) + 1 + 1) := by omega
      by_cases hlt : icmp (ky x) (ky y) < 0
      · repeat' (first
          | with_reducible (first | refine wp_seq ?_ | refine wp_blk ?_ | refine wp_skip ?_ | refine wp_exit ?_ | refine wp_ret ?_ | refine seqQ_norm ?_ | refine seqQ_ret ?_ | refine seqQ_exit ?_ | refine blkQ_norm ?_ | refine blkQ_ret ?_ | refine blkQ_exit ?_ | refine loopQ_norm ?_ | refine loopQ_exit ?_ | refine loopQ_ret ?_ | refine endQ_ret ?_ | refine endQ_norm ?_ | refine endE_ret ?_ | refine endE_norm ?_ | refine endI_ret ?_ | refine endI_norm ?_)
          | (with_reducible refine wp_regK fun K hK => ?_
             simp[e3, hcx, hlt, hw2, hw3, hg1, hs1, hb1, hb2]
             repeat' (with_reducible first | refine hK _ ?_ | (refine psel ?_ ?_ <;> (intro hc; (try rw [Decidable.not_not] at hc); first | (exfalso; omega) | (try simp [hc, e3, hcx, hlt, hw2, hw3, hg1, hs1, hb1, hb2]))))
             all_goals (clear hK; clear K))
          | (with_reducible refine wp_condE ?_
             refine ⟨_, rfl, ?_, ?_⟩ <;> (intro hc; (try simp at hc); (all_goals first | (exfalso; omega) | skip))))
        all_goals exact ⟨(A, y :: B), by simp only [← hQ, ← hZ]; simp, ⟨k1, fun v hv => by
          rcases List.mem_cons.1 hv with rfl | hv
          · exact (icmp_neg _ _).1 hlt
          · exact k2 v hv⟩, by simp⟩
      · repeat' (first
          | with_reducible (first | refine wp_seq ?_ | refine wp_blk ?_ | refine wp_skip ?_ | refine wp_exit ?_ | refine wp_ret ?_ | refine seqQ_norm ?_ | refine seqQ_ret ?_ | refine seqQ_exit ?_ | refine blkQ_norm ?_ | refine blkQ_ret ?_ | refine blkQ_exit ?_ | refine loopQ_norm ?_ | refine loopQ_exit ?_ | refine loopQ_ret ?_ | refine endQ_ret ?_ | refine endQ_norm ?_ | refine endE_ret ?_ | refine endE_norm ?_ | refine endI_ret ?_ | refine endI_norm ?_)
          | (with_reducible refine wp_regK fun K hK => ?_
             simp[e3, hcx, hlt, hw2, hw3, hg1, hs1, hb1, hb2]
             repeat' (with_reducible first | refine hK _ ?_ | (refine psel ?_ ?_ <;> (intro hc; (try rw [Decidable.not_not] at hc); first | (exfalso; omega) | (try simp [hc, e3, hcx, hlt, hw2, hw3, hg1, hs1, hb1, hb2]))))
             all_goals (clear hK; clear K))
          | (with_reducible refine wp_condE ?_
             refine ⟨_, rfl, ?_, ?_⟩ <;> (intro hc; (try simp at hc); (all_goals first | (exfalso; omega) | skip))))
        all_goals exact ⟨(A ++ y :: x :: B, R), by simp only [hw1, ← hQ, ← hZ]; simp [k1]; omega, hfin (fun u hu => by
          have h5 : ¬ ky x < ky y := fun h => hlt ((icmp_neg _ _).2 h)
          have h6 : ky u ≤ ky y := srt_upto (A := A) (Srt.left (B := B) (by simpa [← k1] using h3)) hu
          have h7 : u < x := hxU u (by rw [k1]; simp at hu ⊢; rcases hu with h | h <;> simp [h])
          exact slt_of_le (by omega) h7), by simp⟩

theorem sw_map (U V Z : List Int) (x y : Int) {k1 k2 : Nat} (h1 : k1 = U.length) (h2 : k2 = U.length + 1 + V.length) :
    (((U ++ x :: (V ++ y :: Z)).map ei).set k1 [di y]).set k2 [di x] = (U ++ y :: (V ++ x :: Z)).map ei := by
  subst h1 h2
  have e : ∀ z : Int, [di z] = ei z := fun _ => rfl
  rw [e, e, ← List.map_set, ← List.map_set, sw_mid]

theorem sw_map' (U V Z : List Int) (x y : Int) {k1 k2 : Nat} (h1 : k1 = U.length) (h2 : k2 = U.length + 1 + V.length) :
    (((U ++ x :: (V ++ y :: Z)).map ei).set k2 [di x]).set k1 [di y] = (U ++ y :: (V ++ x :: Z)).map ei := by
  rw [List.set_comm _ _ (by omega)]
  exact sw_map U V Z x y h1 h2

end Go.Proofs.Ytkgibccknlbiaaa.OM
