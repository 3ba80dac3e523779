/- What the functions answer. -/
import Derived.Test.YtkhgflloifjniaaOMTypes
import Derived.Test.YtkhgflloifjniaaOMTac2
import Derived.Test.YtkhgflloifjniaaXSameDirPc0
set_option linter.all false
namespace Go.Proofs.Ytkhgflloifjniaa.OM
set_option maxHeartbeats 4000000
set_option maxRecDepth 100000

def tab : List (Nat × PF) := [(47, pf47), (126, pf126), (151, pf151), (156, pf156), (157, pf157), (218, pf218), (223, pf223), (243, pf243), (248, pf248), (249, pf249), (328, pf328), (403, pf403)]
def TT (k : Nat) : Option PF := tab.lookup k

@[simp] theorem t248 (x_Buf : Int) (x_Gen : Int) (x_Kind : Int) (x_First : Int) (x_Many : Int)  : Gw TT 248 [.st [.ro false (di x_Buf), .ro false (di x_Gen), .ro false (di x_Kind), .ro false (di x_First), .ro false (di x_Many)]] = some (.st [.ro false (di x_Buf), .ro false (di x_Gen), .ro false (di x_Kind), .ro false (di x_First), .ro false (di x_Many)], []) := by
  refine Gw_of (F := pf248) rfl rfl ?_
  show Wp _ pb248 _ _
  unfold pb248
  repeat' (first
    | with_reducible (first | refine wp_seq ?_ | refine wp_blk ?_ | refine wp_skip ?_ | refine wp_exit ?_ | refine wp_ret ?_ | refine seqQ_norm ?_ | refine seqQ_ret ?_ | refine seqQ_exit ?_ | refine blkQ_norm ?_ | refine blkQ_ret ?_ | refine blkQ_exit ?_ | refine loopQ_norm ?_ | refine loopQ_exit ?_ | refine loopQ_ret ?_ | refine endQ_ret ?_ | refine endQ_norm ?_ | refine endE_ret ?_ | refine endE_norm ?_ | refine endI_ret ?_ | refine endI_norm ?_)
    | (with_reducible refine wp_regK fun K hK => ?_
       simp
       repeat' (with_reducible first | refine hK _ ?_ | (refine psel ?_ ?_ <;> (intro hc; (try rw [Decidable.not_not] at hc); first | (exfalso; omega) | (try simp [hc]))))
       all_goals (clear hK; clear K))
    | (with_reducible refine wp_condE ?_
       refine ⟨_, rfl, ?_, ?_⟩ <;> (intro hc; (try simp at hc); (all_goals first | (exfalso; omega) | skip))))
  all_goals simp [pf248]

@[simp] theorem t249 (k0 : Bool) (l : List XRef) (h : l.length ≤ 1048576)  : Gw TT 249 [.one (.ro k0 (.sl 5 (l.map XRef.e)))] = some (.one (.own (.sl 5 (l.map XRef.e))), []) := by
  refine Gw_of (F := pf249) rfl rfl ?_
  show Wp _ pb249 _ _
  unfold pb249
  repeat' (first
    | with_reducible (first | refine wp_seq ?_ | refine wp_blk ?_ | refine wp_skip ?_ | refine wp_exit ?_ | refine wp_ret ?_ | refine seqQ_norm ?_ | refine seqQ_ret ?_ | refine seqQ_exit ?_ | refine blkQ_norm ?_ | refine blkQ_ret ?_ | refine blkQ_exit ?_ | refine loopQ_norm ?_ | refine loopQ_exit ?_ | refine loopQ_ret ?_ | refine endQ_ret ?_ | refine endQ_norm ?_ | refine endE_ret ?_ | refine endE_norm ?_ | refine endI_ret ?_ | refine endI_norm ?_)
    | (with_reducible refine wp_regK fun K hK => ?_
       simp
       repeat' (with_reducible first | refine hK _ ?_ | (refine psel ?_ ?_ <;> (intro hc; (try rw [Decidable.not_not] at hc); first | (exfalso; omega) | (try simp [hc]))))
       all_goals (clear hK; clear K))
    | (with_reducible refine wp_condE ?_
       refine ⟨_, rfl, ?_, ?_⟩ <;> (intro hc; (try simp at hc); (all_goals first | (exfalso; omega) | skip))))
  · refine wp_loopI (σ := List XRef × List XRef) (fun s => [(0, AV.v k0 (D.sl 5 (List.map XRef.e l)), none), (3, AV.pl 3 0 [], some (Rt.vir [C.own (D.sl 5 (s.1.map XRef.e ++ List.replicate s.2.length [.int .i64 0, .int .i64 0, .int .i64 0, .int .i64 0, .int .i64 0]))])), (4, AV.v false (di (s.1.length : Nat)), none)]) (fun s => l = s.1 ++ s.2) (fun s => s.2.length) ([], l) (by simp) rfl ?_
    rintro ⟨pre, rest⟩ h1
    simp only at h1
    subst h1
    simp only [List.length_append, List.length_cons] at h
    rcases rest with _ | ⟨⟨y_Buf, y_Gen, y_Kind, y_First, y_Many⟩, rest⟩
    · unfold pl249_0
      repeat' (first
        | with_reducible (first | refine wp_seq ?_ | refine wp_blk ?_ | refine wp_skip ?_ | refine wp_exit ?_ | refine wp_ret ?_ | refine seqQ_norm ?_ | refine seqQ_ret ?_ | refine seqQ_exit ?_ | refine blkQ_norm ?_ | refine blkQ_ret ?_ | refine blkQ_exit ?_ | refine loopQ_norm ?_ | refine loopQ_exit ?_ | refine loopQ_ret ?_ | refine endQ_ret ?_ | refine endQ_norm ?_ | refine endE_ret ?_ | refine endE_norm ?_ | refine endI_ret ?_ | refine endI_norm ?_)
        | (with_reducible refine wp_regK fun K hK => ?_
           simp
           repeat' (with_reducible first | refine hK _ ?_ | (refine psel ?_ ?_ <;> (intro hc; (try rw [Decidable.not_not] at hc); first | (exfalso; omega) | (try simp [hc]))))
           all_goals (clear hK; clear K))
        | (with_reducible refine wp_condE ?_
           refine ⟨_, rfl, ?_, ?_⟩ <;> (intro hc; (try simp at hc); (all_goals first | (exfalso; omega) | skip))))
      all_goals simp [pf249]
    · unfold pl249_0
      simp only [List.length_cons] at h
      have hw : IntKind.wrap .i64 ((pre.length : Int) + 1) = (pre.length : Int) + 1 := wrap_i64 (by omega) (by omega)
      repeat' (first
        | with_reducible (first | refine wp_seq ?_ | refine wp_blk ?_ | refine wp_skip ?_ | refine wp_exit ?_ | refine wp_ret ?_ | refine seqQ_norm ?_ | refine seqQ_ret ?_ | refine seqQ_exit ?_ | refine blkQ_norm ?_ | refine blkQ_ret ?_ | refine blkQ_exit ?_ | refine loopQ_norm ?_ | refine loopQ_exit ?_ | refine loopQ_ret ?_ | refine endQ_ret ?_ | refine endQ_norm ?_ | refine endE_ret ?_ | refine endE_norm ?_ | refine endI_ret ?_ | refine endI_norm ?_)
        | (with_reducible refine wp_regK fun K hK => ?_
           simp[List.replicate_succ, hw]
           repeat' (with_reducible first | refine hK _ ?_ | (refine psel ?_ ?_ <;> (intro hc; (try rw [Decidable.not_not] at hc); first | (exfalso; omega) | (try simp [hc, List.replicate_succ, hw]))))
           all_goals (clear hK; clear K))
        | (with_reducible refine wp_condE ?_
           refine ⟨_, rfl, ?_, ?_⟩ <;> (intro hc; (try simp at hc); (all_goals first | (exfalso; omega) | skip))))
      all_goals exact ⟨(pre ++ [⟨y_Buf, y_Gen, y_Kind, y_First, y_Many⟩], rest), by simp, by simp, by simp⟩

@[simp] theorem t156 (x_Buf : Int) (x_Gen : Int) (x_Kind : Int) (x_First : Int) (x_Many : Int)  : Gw TT 156 [.st [.ro false (di x_Buf), .ro false (di x_Gen), .ro false (di x_Kind), .ro false (di x_First), .ro false (di x_Many)], .st [.ro false (di x_Buf), .ro false (di x_Gen), .ro false (di x_Kind), .ro false (di x_First), .ro false (di x_Many)]] = some (vb true, []) := by
  refine Gw_of (F := pf156) rfl rfl ?_
  show Wp _ pb156 _ _
  unfold pb156
  repeat' (first
    | with_reducible (first | refine wp_seq ?_ | refine wp_blk ?_ | refine wp_skip ?_ | refine wp_exit ?_ | refine wp_ret ?_ | refine seqQ_norm ?_ | refine seqQ_ret ?_ | refine seqQ_exit ?_ | refine blkQ_norm ?_ | refine blkQ_ret ?_ | refine blkQ_exit ?_ | refine loopQ_norm ?_ | refine loopQ_exit ?_ | refine loopQ_ret ?_ | refine endQ_ret ?_ | refine endQ_norm ?_ | refine endE_ret ?_ | refine endE_norm ?_ | refine endI_ret ?_ | refine endI_norm ?_)
    | (with_reducible refine wp_regK fun K hK => ?_
       simp
       repeat' (with_reducible first | refine hK _ ?_ | (refine psel ?_ ?_ <;> (intro hc; (try rw [Decidable.not_not] at hc); first | (exfalso; omega) | (try simp [hc]))))
       all_goals (clear hK; clear K))
    | (with_reducible refine wp_condE ?_
       refine ⟨_, rfl, ?_, ?_⟩ <;> (intro hc; (try simp at hc); (all_goals first | (exfalso; omega) | skip))))
  all_goals simp [pf156]

@[simp] theorem t157 (k0 k1 : Bool) (l : List XRef) (h : l.length ≤ 1048576)  : Gw TT 157 [.one (.ro k0 (.sl 5 (l.map XRef.e))), .one (.ro k1 (.sl 5 (l.map XRef.e)))] = some (vb true, []) := by
  refine Gw_of (F := pf157) rfl rfl ?_
  show Wp _ pb157 _ _
  unfold pb157
  repeat' (first
    | with_reducible (first | refine wp_seq ?_ | refine wp_blk ?_ | refine wp_skip ?_ | refine wp_exit ?_ | refine wp_ret ?_ | refine seqQ_norm ?_ | refine seqQ_ret ?_ | refine seqQ_exit ?_ | refine blkQ_norm ?_ | refine blkQ_ret ?_ | refine blkQ_exit ?_ | refine loopQ_norm ?_ | refine loopQ_exit ?_ | refine loopQ_ret ?_ | refine endQ_ret ?_ | refine endQ_norm ?_ | refine endE_ret ?_ | refine endE_norm ?_ | refine endI_ret ?_ | refine endI_norm ?_)
    | (with_reducible refine wp_regK fun K hK => ?_
       simp
       repeat' (with_reducible first | refine hK _ ?_ | (refine psel ?_ ?_ <;> (intro hc; (try rw [Decidable.not_not] at hc); first | (exfalso; omega) | (try simp [hc]))))
       all_goals (clear hK; clear K))
    | (with_reducible refine wp_condE ?_
       refine ⟨_, rfl, ?_, ?_⟩ <;> (intro hc; (try simp at hc); (all_goals first | (exfalso; omega) | skip))))
  · refine wp_loopI (σ := List XRef × List XRef) (fun s => [(0, AV.v k0 (D.sl 5 (List.map XRef.e l)), none), (1, AV.v k1 (D.sl 5 (List.map XRef.e l)), none), (5, AV.v false (di (s.1.length : Nat)), none)]) (fun s => l = s.1 ++ s.2) (fun s => s.2.length) ([], l) (by simp) rfl ?_
    rintro ⟨pre, rest⟩ h1
    simp only at h1
    subst h1
    simp only [List.length_append, List.length_cons] at h
    rcases rest with _ | ⟨⟨y_Buf, y_Gen, y_Kind, y_First, y_Many⟩, rest⟩
    · unfold pl157_0
      repeat' (first
        | with_reducible (first | refine wp_seq ?_ | refine wp_blk ?_ | refine wp_skip ?_ | refine wp_exit ?_ | refine wp_ret ?_ | refine seqQ_norm ?_ | refine seqQ_ret ?_ | refine seqQ_exit ?_ | refine blkQ_norm ?_ | refine blkQ_ret ?_ | refine blkQ_exit ?_ | refine loopQ_norm ?_ | refine loopQ_exit ?_ | refine loopQ_ret ?_ | refine endQ_ret ?_ | refine endQ_norm ?_ | refine endE_ret ?_ | refine endE_norm ?_ | refine endI_ret ?_ | refine endI_norm ?_)
        | (with_reducible refine wp_regK fun K hK => ?_
           simp
           repeat' (with_reducible first | refine hK _ ?_ | (refine psel ?_ ?_ <;> (intro hc; (try rw [Decidable.not_not] at hc); first | (exfalso; omega) | (try simp [hc]))))
           all_goals (clear hK; clear K))
        | (with_reducible refine wp_condE ?_
           refine ⟨_, rfl, ?_, ?_⟩ <;> (intro hc; (try simp at hc); (all_goals first | (exfalso; omega) | skip))))
      all_goals simp [pf157]
    · unfold pl157_0
      simp only [List.length_cons] at h
      have hw : IntKind.wrap .i64 ((pre.length : Int) + 1) = (pre.length : Int) + 1 := wrap_i64 (by omega) (by omega)
      repeat' (first
        | with_reducible (first | refine wp_seq ?_ | refine wp_blk ?_ | refine wp_skip ?_ | refine wp_exit ?_ | refine wp_ret ?_ | refine seqQ_norm ?_ | refine seqQ_ret ?_ | refine seqQ_exit ?_ | refine blkQ_norm ?_ | refine blkQ_ret ?_ | refine blkQ_exit ?_ | refine loopQ_norm ?_ | refine loopQ_exit ?_ | refine loopQ_ret ?_ | refine endQ_ret ?_ | refine endQ_norm ?_ | refine endE_ret ?_ | refine endE_norm ?_ | refine endI_ret ?_ | refine endI_norm ?_)
        | (with_reducible refine wp_regK fun K hK => ?_
           simp[hw]
           repeat' (with_reducible first | refine hK _ ?_ | (refine psel ?_ ?_ <;> (intro hc; (try rw [Decidable.not_not] at hc); first | (exfalso; omega) | (try simp [hc, hw]))))
           all_goals (clear hK; clear K))
        | (with_reducible refine wp_condE ?_
           refine ⟨_, rfl, ?_, ?_⟩ <;> (intro hc; (try simp at hc); (all_goals first | (exfalso; omega) | skip))))
      all_goals exact ⟨(pre ++ [⟨y_Buf, y_Gen, y_Kind, y_First, y_Many⟩], rest), by simp, by simp, by simp⟩

@[simp] theorem t243 (k0 : Bool) (x_Ver : Int) (x_L : List XRef) (hsm_x_L : x_L.length ≤ 1048576) : Gw TT 243 [.st [.ro false (di x_Ver), .ro k0 (.sl 5 (x_L.map XRef.e))]] = some (.st [.ro false (di x_Ver), .own (.sl 5 (x_L.map XRef.e))], []) := by
  refine Gw_of (F := pf243) rfl rfl ?_
  show Wp _ pb243 _ _
  unfold pb243
  repeat' (first
    | with_reducible (first | refine wp_seq ?_ | refine wp_blk ?_ | refine wp_skip ?_ | refine wp_exit ?_ | refine wp_ret ?_ | refine seqQ_norm ?_ | refine seqQ_ret ?_ | refine seqQ_exit ?_ | refine blkQ_norm ?_ | refine blkQ_ret ?_ | refine blkQ_exit ?_ | refine loopQ_norm ?_ | refine loopQ_exit ?_ | refine loopQ_ret ?_ | refine endQ_ret ?_ | refine endQ_norm ?_ | refine endE_ret ?_ | refine endE_norm ?_ | refine endI_ret ?_ | refine endI_norm ?_)
    | (with_reducible refine wp_regK fun K hK => ?_
       simp[hsm_x_L]
       repeat' (with_reducible first | refine hK _ ?_ | (refine psel ?_ ?_ <;> (intro hc; (try rw [Decidable.not_not] at hc); first | (exfalso; omega) | (try simp [hc, hsm_x_L]))))
       all_goals (clear hK; clear K))
    | (with_reducible refine wp_condE ?_
       refine ⟨_, rfl, ?_, ?_⟩ <;> (intro hc; (try simp at hc); (all_goals first | (exfalso; omega) | skip))))
  all_goals simp [pf243]

@[simp] theorem t151 (k0 k1 : Bool) (x_Ver : Int) (x_L : List XRef) (hok_x_L : x_L.length ≤ 1048576) : Gw TT 151 [.st [.ro false (di x_Ver), .ro k0 (.sl 5 (x_L.map XRef.e))], .st [.ro false (di x_Ver), .ro k1 (.sl 5 (x_L.map XRef.e))]] = some (vb true, []) := by
  refine Gw_of (F := pf151) rfl rfl ?_
  show Wp _ pb151 _ _
  unfold pb151
  repeat' (first
    | with_reducible (first | refine wp_seq ?_ | refine wp_blk ?_ | refine wp_skip ?_ | refine wp_exit ?_ | refine wp_ret ?_ | refine seqQ_norm ?_ | refine seqQ_ret ?_ | refine seqQ_exit ?_ | refine blkQ_norm ?_ | refine blkQ_ret ?_ | refine blkQ_exit ?_ | refine loopQ_norm ?_ | refine loopQ_exit ?_ | refine loopQ_ret ?_ | refine endQ_ret ?_ | refine endQ_norm ?_ | refine endE_ret ?_ | refine endE_norm ?_ | refine endI_ret ?_ | refine endI_norm ?_)
    | (with_reducible refine wp_regK fun K hK => ?_
       simp[hok_x_L]
       repeat' (with_reducible first | refine hK _ ?_ | (refine psel ?_ ?_ <;> (intro hc; (try rw [Decidable.not_not] at hc); first | (exfalso; omega) | (try simp [hc, hok_x_L]))))
       all_goals (clear hK; clear K))
    | (with_reducible refine wp_condE ?_
       refine ⟨_, rfl, ?_, ?_⟩ <;> (intro hc; (try simp at hc); (all_goals first | (exfalso; omega) | skip))))
  all_goals simp [pf151]

theorem t223 (k0 : Bool) (l : List XRef) (left : Int) (h0 : 0 ≤ left) (h1 : left ≤ 1048576) (hl : l.length ≤ 9223372036854775807) :
    ∃ n, Gw TT 223 [.one (.ro k0 (.sl 5 (l.map XRef.e))), vi left] = some (vi n, []) ∧ -1 ≤ n ∧ n ≤ left ∧ (0 ≤ n → l.length ≤ 1048576) := by
  refine Gw_ofI (F := pf223) rfl rfl ?_
  show Wp _ pb223 _ _
  unfold pb223
  have g : IntKind.wrap .i64 (left - (l.length : Int)) = left - (l.length : Int) := wrap_i64 (by omega) (by omega)
  repeat' (first
    | with_reducible (first | refine wp_seq ?_ | refine wp_blk ?_ | refine wp_skip ?_ | refine wp_exit ?_ | refine wp_ret ?_ | refine seqQ_norm ?_ | refine seqQ_ret ?_ | refine seqQ_exit ?_ | refine blkQ_norm ?_ | refine blkQ_ret ?_ | refine blkQ_exit ?_ | refine loopQ_norm ?_ | refine loopQ_exit ?_ | refine loopQ_ret ?_ | refine endQ_ret ?_ | refine endQ_norm ?_ | refine endE_ret ?_ | refine endE_norm ?_ | refine endI_ret ?_ | refine endI_norm ?_)
    | (with_reducible refine wp_regK fun K hK => ?_
       simp[g]
       repeat' (with_reducible first | refine hK _ ?_ | (refine psel ?_ ?_ <;> (intro hc; (try rw [Decidable.not_not] at hc); first | (exfalso; omega) | (try simp [hc, g]))))
       all_goals (clear hK; clear K))
    | (with_reducible refine wp_condE ?_
       refine ⟨_, rfl, ?_, ?_⟩ <;> (intro hc; (try simp at hc); (all_goals first | (exfalso; omega) | skip))))
  · exact ⟨-1, by simp [pf223], by omega, by omega, fun h => absurd h (by omega)⟩
  · exact ⟨left - (l.length : Int), by simp [pf223], by omega, by omega, fun _ => by omega⟩

theorem t218 (k0 : Bool) (x_Ver : Int) (x_L : List XRef) (left : Int) (h0 : 0 ≤ left) (h1 : left ≤ 1048576) (hok_x_L : x_L.length ≤ 9223372036854775807) :
    ∃ n, Gw TT 218 [.st [.ro false (di x_Ver), .ro k0 (.sl 5 (x_L.map XRef.e))], vi left] = some (vi n, []) ∧ -1 ≤ n ∧ n ≤ left ∧ (0 ≤ n → x_L.length ≤ 1048576) := by
  refine Gw_ofI (F := pf218) rfl rfl ?_
  show Wp _ pb218 _ _
  unfold pb218
  obtain ⟨n1, g1, a1, b1, s1⟩ := t223 k0 x_L left (by omega) (by omega) hok_x_L
  repeat' (first
    | with_reducible (first | refine wp_seq ?_ | refine wp_blk ?_ | refine wp_skip ?_ | refine wp_exit ?_ | refine wp_ret ?_ | refine seqQ_norm ?_ | refine seqQ_ret ?_ | refine seqQ_exit ?_ | refine blkQ_norm ?_ | refine blkQ_ret ?_ | refine blkQ_exit ?_ | refine loopQ_norm ?_ | refine loopQ_exit ?_ | refine loopQ_ret ?_ | refine endQ_ret ?_ | refine endQ_norm ?_ | refine endE_ret ?_ | refine endE_norm ?_ | refine endI_ret ?_ | refine endI_norm ?_)
    | (with_reducible refine wp_regK fun K hK => ?_
       simp[g1]
       repeat' (with_reducible first | refine hK _ ?_ | (refine psel ?_ ?_ <;> (intro hc; (try rw [Decidable.not_not] at hc); first | (exfalso; omega) | (try simp [hc, g1]))))
       all_goals (clear hK; clear K))
    | (with_reducible refine wp_condE ?_
       refine ⟨_, rfl, ?_, ?_⟩ <;> (intro hc; (try simp at hc); (all_goals first | (exfalso; omega) | skip))))
  · exact ⟨-1, by simp [pf218], by omega, by omega, fun h => absurd h (by omega)⟩
  · exact ⟨n1, by simp [pf218], by omega, by omega, fun _ => (s1 (by omega))⟩

def refEq (a b : XRef) : Bool := a.Buf == b.Buf && (a.Gen == b.Gen && (a.Kind == b.Kind && (a.First == b.First && a.Many == b.Many)))
def refsZ : List (XRef × XRef) → Bool
  | [] => true
  | d :: z => if refEq d.1 d.2 then refsZ z else false

theorem zip_ex {α β : Type} : ∀ (l : List α) (m : List β), l.length = m.length → ∃ z : List (α × β), l = z.map Prod.fst ∧ m = z.map Prod.snd
  | [], [], _ => ⟨[], rfl, rfl⟩
  | a :: l, b :: m, h => by
    obtain ⟨z, rfl, rfl⟩ := zip_ex l m (by simpa using h)
    exact ⟨(a, b) :: z, rfl, rfl⟩

def sameRefsF (l m : List XRef) : Bool := if l.length = m.length then refsZ (l.zip m) else false

theorem zip_map {α β : Type} (z : List (α × β)) : (z.map Prod.fst).zip (z.map Prod.snd) = z := by
  induction z with
  | nil => rfl
  | cons p z ih => simp [ih]

theorem t403z (k0 k1 : Bool) (z : List (XRef × XRef)) (h : z.length ≤ 1048576) : Gw TT 403 [.one (.ro k0 (.sl 5 (z.map (XRef.e ∘ Prod.fst)))), .one (.ro k1 (.sl 5 (z.map (XRef.e ∘ Prod.snd))))] = some (vb (refsZ z), []) := by
  refine Gw_of (F := pf403) rfl rfl ?_
  show Wp _ pb403 _ _
  unfold pb403
  repeat' (first
    | with_reducible (first | refine wp_seq ?_ | refine wp_blk ?_ | refine wp_skip ?_ | refine wp_exit ?_ | refine wp_ret ?_ | refine seqQ_norm ?_ | refine seqQ_ret ?_ | refine seqQ_exit ?_ | refine blkQ_norm ?_ | refine blkQ_ret ?_ | refine blkQ_exit ?_ | refine loopQ_norm ?_ | refine loopQ_exit ?_ | refine loopQ_ret ?_ | refine endQ_ret ?_ | refine endQ_norm ?_ | refine endE_ret ?_ | refine endE_norm ?_ | refine endI_ret ?_ | refine endI_norm ?_)
    | (with_reducible refine wp_regK fun K hK => ?_
       simp
       repeat' (with_reducible first | refine hK _ ?_ | (refine psel ?_ ?_ <;> (intro hc; (try rw [Decidable.not_not] at hc); first | (exfalso; omega) | (try simp [hc]))))
       all_goals (clear hK; clear K))
    | (with_reducible refine wp_condE ?_
       refine ⟨_, rfl, ?_, ?_⟩ <;> (intro hc; (try simp at hc); (all_goals first | (exfalso; omega) | skip))))
  refine wp_loopI (σ := List (XRef × XRef) × List (XRef × XRef)) (fun s => [(0, AV.v k0 (D.sl 5 (z.map (XRef.e ∘ Prod.fst))), none), (1, AV.v k1 (D.sl 5 (z.map (XRef.e ∘ Prod.snd))), none), (12, AV.v false (di (z.length : Nat)), none), (13, AV.v false (di ((s.1.length : Nat) : Int)), none)]) (fun s => z = s.1 ++ s.2 ∧ refsZ s.2 = refsZ z) (fun s => s.2.length) ([], z) (by simp) ⟨rfl, rfl⟩ ?_
  rintro ⟨pre, rest⟩ ⟨h1, h2⟩
  simp only at h1 h2
  subst h1
  simp only [List.length_append, List.length_cons] at h
  rcases rest with _ | ⟨d, rest⟩
  · unfold pl403_0
    simp only [refsZ, refEq, Bool.and_eq_true, beq_iff_eq] at h2
    repeat' (first
      | with_reducible (first | refine wp_seq ?_ | refine wp_blk ?_ | refine wp_skip ?_ | refine wp_exit ?_ | refine wp_ret ?_ | refine seqQ_norm ?_ | refine seqQ_ret ?_ | refine seqQ_exit ?_ | refine blkQ_norm ?_ | refine blkQ_ret ?_ | refine blkQ_exit ?_ | refine loopQ_norm ?_ | refine loopQ_exit ?_ | refine loopQ_ret ?_ | refine endQ_ret ?_ | refine endQ_norm ?_ | refine endE_ret ?_ | refine endE_norm ?_ | refine endI_ret ?_ | refine endI_norm ?_)
      | (with_reducible refine wp_regK fun K hK => ?_
         simp
         repeat' (with_reducible first | refine hK _ ?_ | (refine psel ?_ ?_ <;> (intro hc; (try rw [Decidable.not_not] at hc); first | (exfalso; omega) | (try simp [hc]))))
         all_goals (clear hK; clear K))
      | (with_reducible refine wp_condE ?_
         refine ⟨_, rfl, ?_, ?_⟩ <;> (intro hc; (try simp at hc); (all_goals first | (exfalso; omega) | skip))))
    all_goals first | (simp_all [pf403]; done) | (simp_all [pf403]; omega)
  · unfold pl403_0
    simp only [List.length_cons] at h
    simp only [refsZ, refEq, Bool.and_eq_true, beq_iff_eq] at h2
    have hw : IntKind.wrap .i64 ((pre.length : Int) + 1) = (pre.length : Int) + 1 := wrap_i64 (by omega) (by omega)
    repeat' (first
      | with_reducible (first | refine wp_seq ?_ | refine wp_blk ?_ | refine wp_skip ?_ | refine wp_exit ?_ | refine wp_ret ?_ | refine seqQ_norm ?_ | refine seqQ_ret ?_ | refine seqQ_exit ?_ | refine blkQ_norm ?_ | refine blkQ_ret ?_ | refine blkQ_exit ?_ | refine loopQ_norm ?_ | refine loopQ_exit ?_ | refine loopQ_ret ?_ | refine endQ_ret ?_ | refine endQ_norm ?_ | refine endE_ret ?_ | refine endE_norm ?_ | refine endI_ret ?_ | refine endI_norm ?_)
      | (with_reducible refine wp_regK fun K hK => ?_
         simp[hw]
         repeat' (with_reducible first | refine hK _ ?_ | (refine psel ?_ ?_ <;> (intro hc; (try rw [Decidable.not_not] at hc); first | (exfalso; omega) | (try simp [hc, hw]))))
         all_goals (clear hK; clear K))
      | (with_reducible refine wp_condE ?_
         refine ⟨_, rfl, ?_, ?_⟩ <;> (intro hc; (try simp at hc); (all_goals first | (exfalso; omega) | skip))))
    all_goals first | (refine ⟨(pre ++ [d], rest), ?_, ⟨?_, ?_⟩, ?_⟩; (focus (first | (simp; done) | (simp_all; done))); (focus (simp; done)); (focus (refine Eq.trans ?_ h2; clear h2; first | (simp [*]; done) | (simp_all; done) | (split <;> simp_all <;> omega) | (split <;> first | (exfalso; omega) | (simp_all; done)))); (focus (simp; done))) | (simp_all [pf403]; done) | (simp_all [pf403]; omega) | (split at h2 <;> first | (exfalso; omega) | (simp_all [pf403]; done))

@[simp] theorem t403 (k0 k1 : Bool) (l m : List XRef) (h : l.length ≤ 1048576) (h1 : m.length ≤ 1048576) : Gw TT 403 [.one (.ro k0 (.sl 5 (l.map XRef.e))), .one (.ro k1 (.sl 5 (m.map XRef.e)))] = some (vb (sameRefsF l m), []) := by
  by_cases hl : l.length = m.length
  · obtain ⟨z, rfl, rfl⟩ := zip_ex l m hl
    have := t403z k0 k1 z (by simpa using h)
    simp only [sameRefsF, hl, if_true, zip_map, List.map_map]
    exact this
  · refine Gw_of (F := pf403) rfl rfl ?_
    show Wp _ pb403 _ _
    unfold pb403
    repeat' (first
      | with_reducible (first | refine wp_seq ?_ | refine wp_blk ?_ | refine wp_skip ?_ | refine wp_exit ?_ | refine wp_ret ?_ | refine seqQ_norm ?_ | refine seqQ_ret ?_ | refine seqQ_exit ?_ | refine blkQ_norm ?_ | refine blkQ_ret ?_ | refine blkQ_exit ?_ | refine loopQ_norm ?_ | refine loopQ_exit ?_ | refine loopQ_ret ?_ | refine endQ_ret ?_ | refine endQ_norm ?_ | refine endE_ret ?_ | refine endE_norm ?_ | refine endI_ret ?_ | refine endI_norm ?_)
      | (with_reducible refine wp_regK fun K hK => ?_
         simp
         repeat' (with_reducible first | refine hK _ ?_ | (refine psel ?_ ?_ <;> (intro hc; (try rw [Decidable.not_not] at hc); first | (exfalso; omega) | (try simp [hc]))))
         all_goals (clear hK; clear K))
      | (with_reducible refine wp_condE ?_
         refine ⟨_, rfl, ?_, ?_⟩ <;> (intro hc; (try simp at hc); (all_goals first | (exfalso; omega) | skip))))
    all_goals first | (simp_all [pf403, sameRefsF]; done) | (exfalso; omega)

@[simp] theorem t47 (k0 k1 : Bool) (x_Ver y_Ver : Int) (x_L y_L : List XRef) (h : x_L.length ≤ 1048576) (h1 : y_L.length ≤ 1048576) : Gw TT 47 [.st [.ro false (di x_Ver), .ro k0 (.sl 5 (x_L.map XRef.e))], .st [.ro false (di y_Ver), .ro k1 (.sl 5 (y_L.map XRef.e))]] = some (vb (x_Ver == y_Ver && sameRefsF x_L y_L), []) := by
  refine Gw_of (F := pf47) rfl rfl ?_
  show Wp _ pb47 _ _
  unfold pb47
  repeat' (first
    | with_reducible (first | refine wp_seq ?_ | refine wp_blk ?_ | refine wp_skip ?_ | refine wp_exit ?_ | refine wp_ret ?_ | refine seqQ_norm ?_ | refine seqQ_ret ?_ | refine seqQ_exit ?_ | refine blkQ_norm ?_ | refine blkQ_ret ?_ | refine blkQ_exit ?_ | refine loopQ_norm ?_ | refine loopQ_exit ?_ | refine loopQ_ret ?_ | refine endQ_ret ?_ | refine endQ_norm ?_ | refine endE_ret ?_ | refine endE_norm ?_ | refine endI_ret ?_ | refine endI_norm ?_)
    | (with_reducible refine wp_regK fun K hK => ?_
       simp[h, h1]
       repeat' (with_reducible first | refine hK _ ?_ | (refine psel ?_ ?_ <;> (intro hc; (try rw [Decidable.not_not] at hc); first | (exfalso; omega) | (try simp [hc, h, h1]))))
       all_goals (clear hK; clear K))
    | (with_reducible refine wp_condE ?_
       refine ⟨_, rfl, ?_, ?_⟩ <;> (intro hc; (try simp at hc); (all_goals first | (exfalso; omega) | skip))))
  all_goals first | (simp_all [pf47]; done) | (simp_all [pf47]; omega)

theorem t328z (k0 k1 : Bool) (x_Ver : Int) (z : List (XRef × XRef)) (h : z.length ≤ 1048576) : Gw TT 328 [.st [.ro false (di x_Ver), .ro k0 (.sl 5 (z.map (XRef.e ∘ Prod.fst)))], .st [.ro false (di x_Ver), .ro k1 (.sl 5 (z.map (XRef.e ∘ Prod.snd)))]] = some (vb (refsZ z), []) := by
  refine Gw_of (F := pf328) rfl rfl ?_
  show Wp _ pb328 _ _
  unfold pb328
  repeat' (first
    | with_reducible (first | refine wp_seq ?_ | refine wp_blk ?_ | refine wp_skip ?_ | refine wp_exit ?_ | refine wp_ret ?_ | refine seqQ_norm ?_ | refine seqQ_ret ?_ | refine seqQ_exit ?_ | refine blkQ_norm ?_ | refine blkQ_ret ?_ | refine blkQ_exit ?_ | refine loopQ_norm ?_ | refine loopQ_exit ?_ | refine loopQ_ret ?_ | refine endQ_ret ?_ | refine endQ_norm ?_ | refine endE_ret ?_ | refine endE_norm ?_ | refine endI_ret ?_ | refine endI_norm ?_)
    | (with_reducible refine wp_regK fun K hK => ?_
       simp
       repeat' (with_reducible first | refine hK _ ?_ | (refine psel ?_ ?_ <;> (intro hc; (try rw [Decidable.not_not] at hc); first | (exfalso; omega) | (try simp [hc]))))
       all_goals (clear hK; clear K))
    | (with_reducible refine wp_condE ?_
       refine ⟨_, rfl, ?_, ?_⟩ <;> (intro hc; (try simp at hc); (all_goals first | (exfalso; omega) | skip))))
  refine wp_loopI (σ := List (XRef × XRef) × List (XRef × XRef)) (fun s => [(2, AV.bx 2 0, some (Rt.bx [.ro false (di x_Ver), .ro k0 (.sl 5 (z.map (XRef.e ∘ Prod.fst)))])), (3, AV.bx 3 0, some (Rt.bx [.ro false (di x_Ver), .ro k1 (.sl 5 (z.map (XRef.e ∘ Prod.snd)))])), (5, AV.v false (di ((s.1.length : Nat) : Int)), none)]) (fun s => z = s.1 ++ s.2 ∧ refsZ s.2 = refsZ z) (fun s => s.2.length) ([], z) (by simp) ⟨rfl, rfl⟩ ?_
  rintro ⟨pre, rest⟩ ⟨h1, h2⟩
  simp only at h1 h2
  subst h1
  simp only [List.length_append, List.length_cons] at h
  rcases rest with _ | ⟨d, rest⟩
  · unfold pl328_0
    simp only [refsZ, refEq, Bool.and_eq_true, beq_iff_eq] at h2
    repeat' (first
      | with_reducible (first | refine wp_seq ?_ | refine wp_blk ?_ | refine wp_skip ?_ | refine wp_exit ?_ | refine wp_ret ?_ | refine seqQ_norm ?_ | refine seqQ_ret ?_ | refine seqQ_exit ?_ | refine blkQ_norm ?_ | refine blkQ_ret ?_ | refine blkQ_exit ?_ | refine loopQ_norm ?_ | refine loopQ_exit ?_ | refine loopQ_ret ?_ | refine endQ_ret ?_ | refine endQ_norm ?_ | refine endE_ret ?_ | refine endE_norm ?_ | refine endI_ret ?_ | refine endI_norm ?_)
      | (with_reducible refine wp_regK fun K hK => ?_
         simp
         repeat' (with_reducible first | refine hK _ ?_ | (refine psel ?_ ?_ <;> (intro hc; (try rw [Decidable.not_not] at hc); first | (exfalso; omega) | (try simp [hc]))))
         all_goals (clear hK; clear K))
      | (with_reducible refine wp_condE ?_
         refine ⟨_, rfl, ?_, ?_⟩ <;> (intro hc; (try simp at hc); (all_goals first | (exfalso; omega) | skip))))
    all_goals first | (simp_all [pf328]; done) | (simp_all [pf328]; omega)
  · unfold pl328_0
    simp only [List.length_cons] at h
    simp only [refsZ, refEq, Bool.and_eq_true, beq_iff_eq] at h2
    have hw : IntKind.wrap .i64 ((pre.length : Int) + 1) = (pre.length : Int) + 1 := wrap_i64 (by omega) (by omega)
    repeat' (first
      | with_reducible (first | refine wp_seq ?_ | refine wp_blk ?_ | refine wp_skip ?_ | refine wp_exit ?_ | refine wp_ret ?_ | refine seqQ_norm ?_ | refine seqQ_ret ?_ | refine seqQ_exit ?_ | refine blkQ_norm ?_ | refine blkQ_ret ?_ | refine blkQ_exit ?_ | refine loopQ_norm ?_ | refine loopQ_exit ?_ | refine loopQ_ret ?_ | refine endQ_ret ?_ | refine endQ_norm ?_ | refine endE_ret ?_ | refine endE_norm ?_ | refine endI_ret ?_ | refine endI_norm ?_)
      | (with_reducible refine wp_regK fun K hK => ?_
         simp[hw]
         repeat' (with_reducible first | refine hK _ ?_ | (refine psel ?_ ?_ <;> (intro hc; (try rw [Decidable.not_not] at hc); first | (exfalso; omega) | (try simp [hc, hw]))))
         all_goals (clear hK; clear K))
      | (with_reducible refine wp_condE ?_
         refine ⟨_, rfl, ?_, ?_⟩ <;> (intro hc; (try simp at hc); (all_goals first | (exfalso; omega) | skip))))
    all_goals first | (refine ⟨(pre ++ [d], rest), ?_, ⟨?_, ?_⟩, ?_⟩; (focus (first | (simp; done) | (simp_all; done))); (focus (simp; done)); (focus (refine Eq.trans ?_ h2; clear h2; first | (simp [*]; done) | (simp_all; done) | (split <;> simp_all <;> omega) | (split <;> first | (exfalso; omega) | (simp_all; done)))); (focus (simp; done))) | (simp_all [pf328]; done) | (simp_all [pf328]; omega) | (split at h2 <;> first | (exfalso; omega) | (simp_all [pf328]; done))

@[simp] theorem t328 (k0 k1 : Bool) (x_Ver y_Ver : Int) (x_L y_L : List XRef) (h : x_L.length ≤ 1048576) (h1 : y_L.length ≤ 1048576) : Gw TT 328 [.st [.ro false (di x_Ver), .ro k0 (.sl 5 (x_L.map XRef.e))], .st [.ro false (di y_Ver), .ro k1 (.sl 5 (y_L.map XRef.e))]] = some (vb (x_Ver == y_Ver && sameRefsF x_L y_L), []) := by
  by_cases hl : x_Ver = y_Ver ∧ x_L.length = y_L.length
  · obtain ⟨rfl, hl⟩ := hl
    obtain ⟨z, rfl, rfl⟩ := zip_ex x_L y_L hl
    have := t328z k0 k1 x_Ver z (by simpa using h)
    simp only [sameRefsF, hl, if_true, zip_map, List.map_map, BEq.rfl, Bool.true_and]
    exact this
  · refine Gw_of (F := pf328) rfl rfl ?_
    show Wp _ pb328 _ _
    unfold pb328
    repeat' (first
      | with_reducible (first | refine wp_seq ?_ | refine wp_blk ?_ | refine wp_skip ?_ | refine wp_exit ?_ | refine wp_ret ?_ | refine seqQ_norm ?_ | refine seqQ_ret ?_ | refine seqQ_exit ?_ | refine blkQ_norm ?_ | refine blkQ_ret ?_ | refine blkQ_exit ?_ | refine loopQ_norm ?_ | refine loopQ_exit ?_ | refine loopQ_ret ?_ | refine endQ_ret ?_ | refine endQ_norm ?_ | refine endE_ret ?_ | refine endE_norm ?_ | refine endI_ret ?_ | refine endI_norm ?_)
      | (with_reducible refine wp_regK fun K hK => ?_
         simp
         repeat' (with_reducible first | refine hK _ ?_ | (refine psel ?_ ?_ <;> (intro hc; (try rw [Decidable.not_not] at hc); first | (exfalso; omega) | (try simp [hc]))))
         all_goals (clear hK; clear K))
      | (with_reducible refine wp_condE ?_
         refine ⟨_, rfl, ?_, ?_⟩ <;> (intro hc; (try simp at hc); (all_goals first | (exfalso; omega) | skip))))
    all_goals first | (simp_all [pf328, sameRefsF]; done) | (exfalso; omega)

theorem t126 (aA_Ver : Int) (aA_L : List XRef) (aB_Ver : Int) (aB_L : List XRef) (hok_aA_L : aA_L.length ≤ 9223372036854775807) (hok_aB_L : aB_L.length ≤ 9223372036854775807) : Gw TT 126 [.st [.ro false (di aA_Ver), .ro false (.sl 5 (aA_L.map XRef.e))], .st [.ro false (di aB_Ver), .ro false (.sl 5 (aB_L.map XRef.e))]] = some (vb true, []) := by
  refine Gw_of (F := pf126) rfl rfl ?_
  show Wp _ pb126 _ _
  unfold pb126
  obtain ⟨n1, g1, a1, b1, s1⟩ := t218 false aA_Ver aA_L 1048576 (by omega) (by omega) hok_aA_L
  repeat' (first
    | with_reducible (first | refine wp_seq ?_ | refine wp_blk ?_ | refine wp_skip ?_ | refine wp_exit ?_ | refine wp_ret ?_ | refine seqQ_norm ?_ | refine seqQ_ret ?_ | refine seqQ_exit ?_ | refine blkQ_norm ?_ | refine blkQ_ret ?_ | refine blkQ_exit ?_ | refine loopQ_norm ?_ | refine loopQ_exit ?_ | refine loopQ_ret ?_ | refine endQ_ret ?_ | refine endQ_norm ?_ | refine endE_ret ?_ | refine endE_norm ?_ | refine endI_ret ?_ | refine endI_norm ?_)
    | (with_reducible refine wp_regK fun K hK => ?_
       simp[g1]
       repeat' (with_reducible first | refine hK _ ?_ | (refine psel ?_ ?_ <;> (intro hc; (try rw [Decidable.not_not] at hc); first | (exfalso; omega) | (try simp [hc, g1]))))
       all_goals (clear hK; clear K))
    | (with_reducible refine wp_condE ?_
       refine ⟨_, rfl, ?_, ?_⟩ <;> (intro hc; (try simp at hc); (all_goals first | (exfalso; omega) | skip))))
  · simp [pf126]
  have q1 := s1 (by omega)
  have hsm_aA_L := q1
  obtain ⟨n2, g2, a2, b2, s2⟩ := t218 false aB_Ver aB_L n1 (by omega) (by omega) hok_aB_L
  repeat' (first
    | with_reducible (first | refine wp_seq ?_ | refine wp_blk ?_ | refine wp_skip ?_ | refine wp_exit ?_ | refine wp_ret ?_ | refine seqQ_norm ?_ | refine seqQ_ret ?_ | refine seqQ_exit ?_ | refine blkQ_norm ?_ | refine blkQ_ret ?_ | refine blkQ_exit ?_ | refine loopQ_norm ?_ | refine loopQ_exit ?_ | refine loopQ_ret ?_ | refine endQ_ret ?_ | refine endQ_norm ?_ | refine endE_ret ?_ | refine endE_norm ?_ | refine endI_ret ?_ | refine endI_norm ?_)
    | (with_reducible refine wp_regK fun K hK => ?_
       simp[g2, hsm_aA_L]
       repeat' (with_reducible first | refine hK _ ?_ | (refine psel ?_ ?_ <;> (intro hc; (try rw [Decidable.not_not] at hc); first | (exfalso; omega) | (try simp [hc, g2, hsm_aA_L]))))
       all_goals (clear hK; clear K))
    | (with_reducible refine wp_condE ?_
       refine ⟨_, rfl, ?_, ?_⟩ <;> (intro hc; (try simp at hc); (all_goals first | (exfalso; omega) | skip))))
  · simp [pf126]
  have q2 := s2 (by omega)
  have hsm_aB_L := q2
  repeat' (first
    | with_reducible (first | refine wp_seq ?_ | refine wp_blk ?_ | refine wp_skip ?_ | refine wp_exit ?_ | refine wp_ret ?_ | refine seqQ_norm ?_ | refine seqQ_ret ?_ | refine seqQ_exit ?_ | refine blkQ_norm ?_ | refine blkQ_ret ?_ | refine blkQ_exit ?_ | refine loopQ_norm ?_ | refine loopQ_exit ?_ | refine loopQ_ret ?_ | refine endQ_ret ?_ | refine endQ_norm ?_ | refine endE_ret ?_ | refine endE_norm ?_ | refine endI_ret ?_ | refine endI_norm ?_)
    | (with_reducible refine wp_regK fun K hK => ?_
       simp[hsm_aA_L, hsm_aB_L]
       repeat' (with_reducible first | refine hK _ ?_ | (refine psel ?_ ?_ <;> (intro hc; (try rw [Decidable.not_not] at hc); first | (exfalso; omega) | (try simp [hc, hsm_aA_L, hsm_aB_L]))))
       all_goals (clear hK; clear K))
    | (with_reducible refine wp_condE ?_
       refine ⟨_, rfl, ?_, ?_⟩ <;> (intro hc; (try simp at hc); (all_goals first | (exfalso; omega) | skip))))
  all_goals first | (simp [pf126]; done) | (simp_all [pf126]; done)

end Go.Proofs.Ytkhgflloifjniaa.OM
