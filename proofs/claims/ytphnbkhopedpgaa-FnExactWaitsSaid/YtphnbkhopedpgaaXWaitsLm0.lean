/- What the functions answer. -/
import Derived.Test.YtphnbkhopedpgaaOMTypes
import Derived.Test.YtphnbkhopedpgaaOMTac2
import Derived.Test.YtphnbkhopedpgaaXWaitsPc0
set_option linter.all false
namespace Go.Proofs.Ytphnbkhopedpgaa.OM
set_option maxHeartbeats 4000000
set_option maxRecDepth 100000

def tab : List (Nat × PF) := [(61, pf61), (80, pf80), (134, pf134), (147, pf147), (148, pf148), (215, pf215), (239, pf239), (240, pf240), (342, pf342), (366, pf366)]
def TT (k : Nat) : Option PF := tab.lookup k

@[simp] theorem t239 (x_Buf : Int) (x_Gen : Int) (x_At : Int)  : Gw TT 239 [.st [.ro false (di x_Buf), .ro false (di x_Gen), .ro false (di x_At)]] = some (.st [.ro false (di x_Buf), .ro false (di x_Gen), .ro false (di x_At)], []) := by
  refine Gw_of (F := pf239) rfl rfl ?_
  show Wp _ pb239 _ _
  unfold pb239
  repeat' (first
    | with_reducible (first | refine wp_seq ?_ | refine wp_blk ?_ | refine wp_skip ?_ | refine wp_exit ?_ | refine wp_ret ?_ | refine seqQ_norm ?_ | refine seqQ_ret ?_ | refine seqQ_exit ?_ | refine blkQ_norm ?_ | refine blkQ_ret ?_ | refine blkQ_exit ?_ | refine loopQ_norm ?_ | refine loopQ_exit ?_ | refine loopQ_ret ?_ | refine endQ_ret ?_ | refine endQ_norm ?_ | refine endE_ret ?_ | refine endE_norm ?_ | refine endI_ret ?_ | refine endI_norm ?_)
    | (with_reducible refine wp_regK fun K hK => ?_
       simp
       repeat' (with_reducible first | refine hK _ ?_ | (refine psel ?_ ?_ <;> (intro hc; (try rw [Decidable.not_not] at hc); first | (exfalso; omega) | (try simp [hc]))))
       all_goals (clear hK; clear K))
    | (with_reducible refine wp_condE ?_
       refine ⟨_, rfl, ?_, ?_⟩ <;> (intro hc; (try simp at hc); (all_goals first | (exfalso; omega) | skip))))
  all_goals simp [pf239]

@[simp] theorem t240 (k0 : Bool) (l : List XDead) (h : l.length ≤ 1048576)  : Gw TT 240 [.one (.ro k0 (.sl 3 (l.map XDead.e)))] = some (.one (.own (.sl 3 (l.map XDead.e))), []) := by
  refine Gw_of (F := pf240) rfl rfl ?_
  show Wp _ pb240 _ _
  unfold pb240
  repeat' (first
    | with_reducible (first | refine wp_seq ?_ | refine wp_blk ?_ | refine wp_skip ?_ | refine wp_exit ?_ | refine wp_ret ?_ | refine seqQ_norm ?_ | refine seqQ_ret ?_ | refine seqQ_exit ?_ | refine blkQ_norm ?_ | refine blkQ_ret ?_ | refine blkQ_exit ?_ | refine loopQ_norm ?_ | refine loopQ_exit ?_ | refine loopQ_ret ?_ | refine endQ_ret ?_ | refine endQ_norm ?_ | refine endE_ret ?_ | refine endE_norm ?_ | refine endI_ret ?_ | refine endI_norm ?_)
    | (with_reducible refine wp_regK fun K hK => ?_
       simp
       repeat' (with_reducible first | refine hK _ ?_ | (refine psel ?_ ?_ <;> (intro hc; (try rw [Decidable.not_not] at hc); first | (exfalso; omega) | (try simp [hc]))))
       all_goals (clear hK; clear K))
    | (with_reducible refine wp_condE ?_
       refine ⟨_, rfl, ?_, ?_⟩ <;> (intro hc; (try simp at hc); (all_goals first | (exfalso; omega) | skip))))
  · refine wp_loopI (σ := List XDead × List XDead) (fun s => [(0, AV.v k0 (D.sl 3 (List.map XDead.e l)), none), (3, AV.pl 3 0 [], some (Rt.vir [C.own (D.sl 3 (s.1.map XDead.e ++ List.replicate s.2.length [.int .i64 0, .int .i64 0, .int .i64 0]))])), (4, AV.v false (di (s.1.length : Nat)), none)]) (fun s => l = s.1 ++ s.2) (fun s => s.2.length) ([], l) (by simp) rfl ?_
    rintro ⟨pre, rest⟩ h1
    simp only at h1
    subst h1
    simp only [List.length_append, List.length_cons] at h
    rcases rest with _ | ⟨⟨y_Buf, y_Gen, y_At⟩, rest⟩
    · unfold pl240_0
      repeat' (first
        | with_reducible (first | refine wp_seq ?_ | refine wp_blk ?_ | refine wp_skip ?_ | refine wp_exit ?_ | refine wp_ret ?_ | refine seqQ_norm ?_ | refine seqQ_ret ?_ | refine seqQ_exit ?_ | refine blkQ_norm ?_ | refine blkQ_ret ?_ | refine blkQ_exit ?_ | refine loopQ_norm ?_ | refine loopQ_exit ?_ | refine loopQ_ret ?_ | refine endQ_ret ?_ | refine endQ_norm ?_ | refine endE_ret ?_ | refine endE_norm ?_ | refine endI_ret ?_ | refine endI_norm ?_)
        | (with_reducible refine wp_regK fun K hK => ?_
           simp
           repeat' (with_reducible first | refine hK _ ?_ | (refine psel ?_ ?_ <;> (intro hc; (try rw [Decidable.not_not] at hc); first | (exfalso; omega) | (try simp [hc]))))
           all_goals (clear hK; clear K))
        | (with_reducible refine wp_condE ?_
           refine ⟨_, rfl, ?_, ?_⟩ <;> (intro hc; (try simp at hc); (all_goals first | (exfalso; omega) | skip))))
      all_goals simp [pf240]
    · unfold pl240_0
      simp only [List.length_cons] at h
      have hw : IntKind.wrap .i64 ((pre.length : Int) + 1) = (pre.length : Int) + 1 := wrap_i64 (by omega) (by omega)
      repeat' (first
        | with_reducible (first | refine wp_seq ?_ | refine wp_blk ?_ | refine wp_skip ?_ | refine wp_exit ?_ | refine wp_ret ?_ | refine seqQ_norm ?_ | refine seqQ_ret ?_ | refine seqQ_exit ?_ | refine blkQ_norm ?_ | refine blkQ_ret ?_ | refine blkQ_exit ?_ | refine loopQ_norm ?_ | refine loopQ_exit ?_ | refine loopQ_ret ?_ | refine endQ_ret ?_ | refine endQ_norm ?_ | refine endE_ret ?_ | refine endE_norm ?_ | refine endI_ret ?_ | refine endI_norm ?_)
        | (with_reducible refine wp_regK fun K hK => ?_
           simp[List.replicate_succ, hw]
           repeat' (with_reducible first | refine hK _ ?_ | (refine psel ?_ ?_ <;> (intro hc; (try rw [Decidable.not_not] at hc); first | (exfalso; omega) | (try simp [hc, List.replicate_succ, hw]))))
           all_goals (clear hK; clear K))
        | (with_reducible refine wp_condE ?_
           refine ⟨_, rfl, ?_, ?_⟩ <;> (intro hc; (try simp at hc); (all_goals first | (exfalso; omega) | skip))))
      all_goals exact ⟨(pre ++ [⟨y_Buf, y_Gen, y_At⟩], rest), by simp, by simp, by simp⟩

@[simp] theorem t147 (x_Buf : Int) (x_Gen : Int) (x_At : Int)  : Gw TT 147 [.st [.ro false (di x_Buf), .ro false (di x_Gen), .ro false (di x_At)], .st [.ro false (di x_Buf), .ro false (di x_Gen), .ro false (di x_At)]] = some (vb true, []) := by
  refine Gw_of (F := pf147) rfl rfl ?_
  show Wp _ pb147 _ _
  unfold pb147
  repeat' (first
    | with_reducible (first | refine wp_seq ?_ | refine wp_blk ?_ | refine wp_skip ?_ | refine wp_exit ?_ | refine wp_ret ?_ | refine seqQ_norm ?_ | refine seqQ_ret ?_ | refine seqQ_exit ?_ | refine blkQ_norm ?_ | refine blkQ_ret ?_ | refine blkQ_exit ?_ | refine loopQ_norm ?_ | refine loopQ_exit ?_ | refine loopQ_ret ?_ | refine endQ_ret ?_ | refine endQ_norm ?_ | refine endE_ret ?_ | refine endE_norm ?_ | refine endI_ret ?_ | refine endI_norm ?_)
    | (with_reducible refine wp_regK fun K hK => ?_
       simp
       repeat' (with_reducible first | refine hK _ ?_ | (refine psel ?_ ?_ <;> (intro hc; (try rw [Decidable.not_not] at hc); first | (exfalso; omega) | (try simp [hc]))))
       all_goals (clear hK; clear K))
    | (with_reducible refine wp_condE ?_
       refine ⟨_, rfl, ?_, ?_⟩ <;> (intro hc; (try simp at hc); (all_goals first | (exfalso; omega) | skip))))
  all_goals simp [pf147]

@[simp] theorem t148 (k0 k1 : Bool) (l : List XDead) (h : l.length ≤ 1048576)  : Gw TT 148 [.one (.ro k0 (.sl 3 (l.map XDead.e))), .one (.ro k1 (.sl 3 (l.map XDead.e)))] = some (vb true, []) := by
  refine Gw_of (F := pf148) rfl rfl ?_
  show Wp _ pb148 _ _
  unfold pb148
  repeat' (first
    | with_reducible (first | refine wp_seq ?_ | refine wp_blk ?_ | refine wp_skip ?_ | refine wp_exit ?_ | refine wp_ret ?_ | refine seqQ_norm ?_ | refine seqQ_ret ?_ | refine seqQ_exit ?_ | refine blkQ_norm ?_ | refine blkQ_ret ?_ | refine blkQ_exit ?_ | refine loopQ_norm ?_ | refine loopQ_exit ?_ | refine loopQ_ret ?_ | refine endQ_ret ?_ | refine endQ_norm ?_ | refine endE_ret ?_ | refine endE_norm ?_ | refine endI_ret ?_ | refine endI_norm ?_)
    | (with_reducible refine wp_regK fun K hK => ?_
       simp
       repeat' (with_reducible first | refine hK _ ?_ | (refine psel ?_ ?_ <;> (intro hc; (try rw [Decidable.not_not] at hc); first | (exfalso; omega) | (try simp [hc]))))
       all_goals (clear hK; clear K))
    | (with_reducible refine wp_condE ?_
       refine ⟨_, rfl, ?_, ?_⟩ <;> (intro hc; (try simp at hc); (all_goals first | (exfalso; omega) | skip))))
  · refine wp_loopI (σ := List XDead × List XDead) (fun s => [(0, AV.v k0 (D.sl 3 (List.map XDead.e l)), none), (1, AV.v k1 (D.sl 3 (List.map XDead.e l)), none), (5, AV.v false (di (s.1.length : Nat)), none)]) (fun s => l = s.1 ++ s.2) (fun s => s.2.length) ([], l) (by simp) rfl ?_
    rintro ⟨pre, rest⟩ h1
    simp only at h1
    subst h1
    simp only [List.length_append, List.length_cons] at h
    rcases rest with _ | ⟨⟨y_Buf, y_Gen, y_At⟩, rest⟩
    · unfold pl148_0
      repeat' (first
        | with_reducible (first | refine wp_seq ?_ | refine wp_blk ?_ | refine wp_skip ?_ | refine wp_exit ?_ | refine wp_ret ?_ | refine seqQ_norm ?_ | refine seqQ_ret ?_ | refine seqQ_exit ?_ | refine blkQ_norm ?_ | refine blkQ_ret ?_ | refine blkQ_exit ?_ | refine loopQ_norm ?_ | refine loopQ_exit ?_ | refine loopQ_ret ?_ | refine endQ_ret ?_ | refine endQ_norm ?_ | refine endE_ret ?_ | refine endE_norm ?_ | refine endI_ret ?_ | refine endI_norm ?_)
        | (with_reducible refine wp_regK fun K hK => ?_
           simp
           repeat' (with_reducible first | refine hK _ ?_ | (refine psel ?_ ?_ <;> (intro hc; (try rw [Decidable.not_not] at hc); first | (exfalso; omega) | (try simp [hc]))))
           all_goals (clear hK; clear K))
        | (with_reducible refine wp_condE ?_
           refine ⟨_, rfl, ?_, ?_⟩ <;> (intro hc; (try simp at hc); (all_goals first | (exfalso; omega) | skip))))
      all_goals simp [pf148]
    · unfold pl148_0
      simp only [List.length_cons] at h
      have hw : IntKind.wrap .i64 ((pre.length : Int) + 1) = (pre.length : Int) + 1 := wrap_i64 (by omega) (by omega)
      repeat' (first
        | with_reducible (first | refine wp_seq ?_ | refine wp_blk ?_ | refine wp_skip ?_ | refine wp_exit ?_ | refine wp_ret ?_ | refine seqQ_norm ?_ | refine seqQ_ret ?_ | refine seqQ_exit ?_ | refine blkQ_norm ?_ | refine blkQ_ret ?_ | refine blkQ_exit ?_ | refine loopQ_norm ?_ | refine loopQ_exit ?_ | refine loopQ_ret ?_ | refine endQ_ret ?_ | refine endQ_norm ?_ | refine endE_ret ?_ | refine endE_norm ?_ | refine endI_ret ?_ | refine endI_norm ?_)
        | (with_reducible refine wp_regK fun K hK => ?_
           simp[hw]
           repeat' (with_reducible first | refine hK _ ?_ | (refine psel ?_ ?_ <;> (intro hc; (try rw [Decidable.not_not] at hc); first | (exfalso; omega) | (try simp [hc, hw]))))
           all_goals (clear hK; clear K))
        | (with_reducible refine wp_condE ?_
           refine ⟨_, rfl, ?_, ?_⟩ <;> (intro hc; (try simp at hc); (all_goals first | (exfalso; omega) | skip))))
      all_goals exact ⟨(pre ++ [⟨y_Buf, y_Gen, y_At⟩], rest), by simp, by simp, by simp⟩

theorem t215 (k0 : Bool) (l : List XDead) (left : Int) (h0 : 0 ≤ left) (h1 : left ≤ 1048576) (hl : l.length ≤ 9223372036854775807) :
    ∃ n, Gw TT 215 [.one (.ro k0 (.sl 3 (l.map XDead.e))), vi left] = some (vi n, []) ∧ -1 ≤ n ∧ n ≤ left ∧ (0 ≤ n → l.length ≤ 1048576) := by
  refine Gw_ofI (F := pf215) rfl rfl ?_
  show Wp _ pb215 _ _
  unfold pb215
  have g : IntKind.wrap .i64 (left - (l.length : Int)) = left - (l.length : Int) := wrap_i64 (by omega) (by omega)
  repeat' (first
    | with_reducible (first | refine wp_seq ?_ | refine wp_blk ?_ | refine wp_skip ?_ | refine wp_exit ?_ | refine wp_ret ?_ | refine seqQ_norm ?_ | refine seqQ_ret ?_ | refine seqQ_exit ?_ | refine blkQ_norm ?_ | refine blkQ_ret ?_ | refine blkQ_exit ?_ | refine loopQ_norm ?_ | refine loopQ_exit ?_ | refine loopQ_ret ?_ | refine endQ_ret ?_ | refine endQ_norm ?_ | refine endE_ret ?_ | refine endE_norm ?_ | refine endI_ret ?_ | refine endI_norm ?_)
    | (with_reducible refine wp_regK fun K hK => ?_
       simp[g]
       repeat' (with_reducible first | refine hK _ ?_ | (refine psel ?_ ?_ <;> (intro hc; (try rw [Decidable.not_not] at hc); first | (exfalso; omega) | (try simp [hc, g]))))
       all_goals (clear hK; clear K))
    | (with_reducible refine wp_condE ?_
       refine ⟨_, rfl, ?_, ?_⟩ <;> (intro hc; (try simp at hc); (all_goals first | (exfalso; omega) | skip))))
  · exact ⟨-1, by simp [pf215], by omega, by omega, fun h => absurd h (by omega)⟩
  · exact ⟨left - (l.length : Int), by simp [pf215], by omega, by omega, fun _ => by omega⟩

def ripeB (e at0 : Int) : Bool := decide (2 ≤ e) && decide (at0 ≤ IntKind.wrap .i64 (e - 2))

@[simp] theorem t80 (x y z e : Int) : Gw TT 80 [.st [.ro false (di x), .ro false (di y), .ro false (di z)], vi e] = some (vb (ripeB e z), []) := by
  refine Gw_of (F := pf80) rfl rfl ?_
  show Wp _ pb80 _ _
  unfold pb80
  repeat' (first
    | with_reducible (first | refine wp_seq ?_ | refine wp_blk ?_ | refine wp_skip ?_ | refine wp_exit ?_ | refine wp_ret ?_ | refine seqQ_norm ?_ | refine seqQ_ret ?_ | refine seqQ_exit ?_ | refine blkQ_norm ?_ | refine blkQ_ret ?_ | refine blkQ_exit ?_ | refine loopQ_norm ?_ | refine loopQ_exit ?_ | refine loopQ_ret ?_ | refine endQ_ret ?_ | refine endQ_norm ?_ | refine endE_ret ?_ | refine endE_norm ?_ | refine endI_ret ?_ | refine endI_norm ?_)
    | (with_reducible refine wp_regK fun K hK => ?_
       simp
       repeat' (with_reducible first | refine hK _ ?_ | (refine psel ?_ ?_ <;> (intro hc; (try rw [Decidable.not_not] at hc); first | (exfalso; omega) | (try simp [hc]))))
       all_goals (clear hK; clear K))
    | (with_reducible refine wp_condE ?_
       refine ⟨_, rfl, ?_, ?_⟩ <;> (intro hc; (try simp at hc); (all_goals first | (exfalso; omega) | skip))))
  all_goals first | (simp_all [pf80, ripeB]; done) | (simp_all [pf80, ripeB]; omega)

@[simp] theorem t366 (x y z e : Int) : Gw TT 366 [.st [.ro false (di x), .ro false (di y), .ro false (di z)], vi e] = some (vb (ripeB e z), []) := by
  refine Gw_of (F := pf366) rfl rfl ?_
  show Wp _ pb366 _ _
  unfold pb366
  repeat' (first
    | with_reducible (first | refine wp_seq ?_ | refine wp_blk ?_ | refine wp_skip ?_ | refine wp_exit ?_ | refine wp_ret ?_ | refine seqQ_norm ?_ | refine seqQ_ret ?_ | refine seqQ_exit ?_ | refine blkQ_norm ?_ | refine blkQ_ret ?_ | refine blkQ_exit ?_ | refine loopQ_norm ?_ | refine loopQ_exit ?_ | refine loopQ_ret ?_ | refine endQ_ret ?_ | refine endQ_norm ?_ | refine endE_ret ?_ | refine endE_norm ?_ | refine endI_ret ?_ | refine endI_norm ?_)
    | (with_reducible refine wp_regK fun K hK => ?_
       simp
       repeat' (with_reducible first | refine hK _ ?_ | (refine psel ?_ ?_ <;> (intro hc; (try rw [Decidable.not_not] at hc); first | (exfalso; omega) | (try simp [hc]))))
       all_goals (clear hK; clear K))
    | (with_reducible refine wp_condE ?_
       refine ⟨_, rfl, ?_, ?_⟩ <;> (intro hc; (try simp at hc); (all_goals first | (exfalso; omega) | skip))))
  all_goals first | (simp_all [pf366, ripeB]; done) | (simp_all [pf366, ripeB]; omega)

def ripeF (e : Int) : Int → List XDead → Int
  | _, [] => -1
  | i, d :: l => if ripeB e d.At then i else ripeF e (i + 1) l
def waitsF (e : Int) : Int → List XDead → Int
  | n, [] => n
  | n, d :: l => if ripeB e d.At then waitsF e n l else waitsF e (IntKind.wrap .i64 (n + 1)) l

@[simp] theorem t61 (k0 : Bool) (l : List XDead) (e : Int) (h : l.length ≤ 1048576) : Gw TT 61 [.one (.ro k0 (.sl 3 (l.map XDead.e))), vi e] = some (vi (waitsF e 0 l), []) := by
  refine Gw_of (F := pf61) rfl rfl ?_
  show Wp _ pb61 _ _
  unfold pb61
  repeat' (first
    | with_reducible (first | refine wp_seq ?_ | refine wp_blk ?_ | refine wp_skip ?_ | refine wp_exit ?_ | refine wp_ret ?_ | refine seqQ_norm ?_ | refine seqQ_ret ?_ | refine seqQ_exit ?_ | refine blkQ_norm ?_ | refine blkQ_ret ?_ | refine blkQ_exit ?_ | refine loopQ_norm ?_ | refine loopQ_exit ?_ | refine loopQ_ret ?_ | refine endQ_ret ?_ | refine endQ_norm ?_ | refine endE_ret ?_ | refine endE_norm ?_ | refine endI_ret ?_ | refine endI_norm ?_)
    | (with_reducible refine wp_regK fun K hK => ?_
       simp
       repeat' (with_reducible first | refine hK _ ?_ | (refine psel ?_ ?_ <;> (intro hc; (try rw [Decidable.not_not] at hc); first | (exfalso; omega) | (try simp [hc]))))
       all_goals (clear hK; clear K))
    | (with_reducible refine wp_condE ?_
       refine ⟨_, rfl, ?_, ?_⟩ <;> (intro hc; (try simp at hc); (all_goals first | (exfalso; omega) | skip))))
  refine wp_loopI (σ := List XDead × List XDead × Int) (fun s => [(1, AV.v false (di e), none), (5, AV.v false (di s.2.2), none), (8, AV.v k0 (D.sl 3 (l.map XDead.e)), none), (9, AV.v false (di (l.length : Nat)), none), (10, AV.v false (di ((s.1.length : Nat) : Int)), none)]) (fun s => l = s.1 ++ s.2.1 ∧ waitsF e s.2.2 s.2.1 = waitsF e 0 l) (fun s => s.2.1.length) ([], l, 0) (by simp) ⟨rfl, rfl⟩ ?_
  rintro ⟨pre, rest, a⟩ ⟨h1, h2⟩
  simp only at h1 h2
  subst h1
  simp only [List.length_append, List.length_cons] at h
  rcases rest with _ | ⟨d, rest⟩
  · unfold pl61_0
    simp only [waitsF] at h2
    repeat' (first
      | with_reducible (first | refine wp_seq ?_ | refine wp_blk ?_ | refine wp_skip ?_ | refine wp_exit ?_ | refine wp_ret ?_ | refine seqQ_norm ?_ | refine seqQ_ret ?_ | refine seqQ_exit ?_ | refine blkQ_norm ?_ | refine blkQ_ret ?_ | refine blkQ_exit ?_ | refine loopQ_norm ?_ | refine loopQ_exit ?_ | refine loopQ_ret ?_ | refine endQ_ret ?_ | refine endQ_norm ?_ | refine endE_ret ?_ | refine endE_norm ?_ | refine endI_ret ?_ | refine endI_norm ?_)
      | (with_reducible refine wp_regK fun K hK => ?_
         simp
         repeat' (with_reducible first | refine hK _ ?_ | (refine psel ?_ ?_ <;> (intro hc; (try rw [Decidable.not_not] at hc); first | (exfalso; omega) | (try simp [hc]))))
         all_goals (clear hK; clear K))
      | (with_reducible refine wp_condE ?_
         refine ⟨_, rfl, ?_, ?_⟩ <;> (intro hc; (try simp at hc); (all_goals first | (exfalso; omega) | skip))))
    all_goals first | (simp_all [pf61]; done) | (simp_all [pf61]; omega)
  · unfold pl61_0
    simp only [List.length_cons] at h
    simp only [waitsF] at h2
    have hw : IntKind.wrap .i64 ((pre.length : Int) + 1) = (pre.length : Int) + 1 := wrap_i64 (by omega) (by omega)
    repeat' (first
      | with_reducible (first | refine wp_seq ?_ | refine wp_blk ?_ | refine wp_skip ?_ | refine wp_exit ?_ | refine wp_ret ?_ | refine seqQ_norm ?_ | refine seqQ_ret ?_ | refine seqQ_exit ?_ | refine blkQ_norm ?_ | refine blkQ_ret ?_ | refine blkQ_exit ?_ | refine loopQ_norm ?_ | refine loopQ_exit ?_ | refine loopQ_ret ?_ | refine endQ_ret ?_ | refine endQ_norm ?_ | refine endE_ret ?_ | refine endE_norm ?_ | refine endI_ret ?_ | refine endI_norm ?_)
      | (with_reducible refine wp_regK fun K hK => ?_
         simp[hw]
         repeat' (with_reducible first | refine hK _ ?_ | (refine psel ?_ ?_ <;> (intro hc; (try rw [Decidable.not_not] at hc); first | (exfalso; omega) | (try simp [hc, hw]))))
         all_goals (clear hK; clear K))
      | (with_reducible refine wp_condE ?_
         refine ⟨_, rfl, ?_, ?_⟩ <;> (intro hc; (try simp at hc); (all_goals first | (exfalso; omega) | skip))))
    all_goals first | (refine ⟨(pre ++ [d], rest, IntKind.wrap .i64 (a + 1)), ?_, ⟨?_, ?_⟩, ?_⟩; (focus (first | (simp; done) | (simp_all; done))); (focus (simp; done)); (focus (refine Eq.trans ?_ h2; clear h2; first | (simp [*]; done) | (simp_all; done) | (split <;> simp_all <;> omega) | (split <;> first | (exfalso; omega) | (simp_all; done)))); (focus (simp; done))) | (refine ⟨(pre ++ [d], rest, a), ?_, ⟨?_, ?_⟩, ?_⟩; (focus (first | (simp; done) | (simp_all; done))); (focus (simp; done)); (focus (refine Eq.trans ?_ h2; clear h2; first | (simp [*]; done) | (simp_all; done) | (split <;> simp_all <;> omega) | (split <;> first | (exfalso; omega) | (simp_all; done)))); (focus (simp; done))) | (simp_all [pf61]; done) | (simp_all [pf61]; omega) | (split at h2 <;> first | (exfalso; omega) | (simp_all [pf61]; done))

@[simp] theorem t342 (k0 : Bool) (l : List XDead) (e : Int) (h : l.length ≤ 1048576) : Gw TT 342 [.one (.ro k0 (.sl 3 (l.map XDead.e))), vi e] = some (vi (waitsF e 0 l), []) := by
  refine Gw_of (F := pf342) rfl rfl ?_
  show Wp _ pb342 _ _
  unfold pb342
  repeat' (first
    | with_reducible (first | refine wp_seq ?_ | refine wp_blk ?_ | refine wp_skip ?_ | refine wp_exit ?_ | refine wp_ret ?_ | refine seqQ_norm ?_ | refine seqQ_ret ?_ | refine seqQ_exit ?_ | refine blkQ_norm ?_ | refine blkQ_ret ?_ | refine blkQ_exit ?_ | refine loopQ_norm ?_ | refine loopQ_exit ?_ | refine loopQ_ret ?_ | refine endQ_ret ?_ | refine endQ_norm ?_ | refine endE_ret ?_ | refine endE_norm ?_ | refine endI_ret ?_ | refine endI_norm ?_)
    | (with_reducible refine wp_regK fun K hK => ?_
       simp
       repeat' (with_reducible first | refine hK _ ?_ | (refine psel ?_ ?_ <;> (intro hc; (try rw [Decidable.not_not] at hc); first | (exfalso; omega) | (try simp [hc]))))
       all_goals (clear hK; clear K))
    | (with_reducible refine wp_condE ?_
       refine ⟨_, rfl, ?_, ?_⟩ <;> (intro hc; (try simp at hc); (all_goals first | (exfalso; omega) | skip))))
  refine wp_loopI (σ := List XDead × List XDead × Int) (fun s => [(0, AV.v k0 (D.sl 3 (l.map XDead.e)), none), (1, AV.v false (di e), none), (5, AV.v false (di s.2.2), none), (6, AV.v false (di ((s.1.length : Nat) : Int)), none)]) (fun s => l = s.1 ++ s.2.1 ∧ waitsF e s.2.2 s.2.1 = waitsF e 0 l) (fun s => s.2.1.length) ([], l, 0) (by simp) ⟨rfl, rfl⟩ ?_
  rintro ⟨pre, rest, a⟩ ⟨h1, h2⟩
  simp only at h1 h2
  subst h1
  simp only [List.length_append, List.length_cons] at h
  rcases rest with _ | ⟨d, rest⟩
  · unfold pl342_0
    simp only [waitsF] at h2
    repeat' (first
      | with_reducible (first | refine wp_seq ?_ | refine wp_blk ?_ | refine wp_skip ?_ | refine wp_exit ?_ | refine wp_ret ?_ | refine seqQ_norm ?_ | refine seqQ_ret ?_ | refine seqQ_exit ?_ | refine blkQ_norm ?_ | refine blkQ_ret ?_ | refine blkQ_exit ?_ | refine loopQ_norm ?_ | refine loopQ_exit ?_ | refine loopQ_ret ?_ | refine endQ_ret ?_ | refine endQ_norm ?_ | refine endE_ret ?_ | refine endE_norm ?_ | refine endI_ret ?_ | refine endI_norm ?_)
      | (with_reducible refine wp_regK fun K hK => ?_
         simp
         repeat' (with_reducible first | refine hK _ ?_ | (refine psel ?_ ?_ <;> (intro hc; (try rw [Decidable.not_not] at hc); first | (exfalso; omega) | (try simp [hc]))))
         all_goals (clear hK; clear K))
      | (with_reducible refine wp_condE ?_
         refine ⟨_, rfl, ?_, ?_⟩ <;> (intro hc; (try simp at hc); (all_goals first | (exfalso; omega) | skip))))
    all_goals first | (simp_all [pf342]; done) | (simp_all [pf342]; omega)
  · unfold pl342_0
    simp only [List.length_cons] at h
    simp only [waitsF] at h2
    have hw : IntKind.wrap .i64 ((pre.length : Int) + 1) = (pre.length : Int) + 1 := wrap_i64 (by omega) (by omega)
    repeat' (first
      | with_reducible (first | refine wp_seq ?_ | refine wp_blk ?_ | refine wp_skip ?_ | refine wp_exit ?_ | refine wp_ret ?_ | refine seqQ_norm ?_ | refine seqQ_ret ?_ | refine seqQ_exit ?_ | refine blkQ_norm ?_ | refine blkQ_ret ?_ | refine blkQ_exit ?_ | refine loopQ_norm ?_ | refine loopQ_exit ?_ | refine loopQ_ret ?_ | refine endQ_ret ?_ | refine endQ_norm ?_ | refine endE_ret ?_ | refine endE_norm ?_ | refine endI_ret ?_ | refine endI_norm ?_)
      | (with_reducible refine wp_regK fun K hK => ?_
         simp[hw]
         repeat' (with_reducible first | refine hK _ ?_ | (refine psel ?_ ?_ <;> (intro hc; (try rw [Decidable.not_not] at hc); first | (exfalso; omega) | (try simp [hc, hw]))))
         all_goals (clear hK; clear K))
      | (with_reducible refine wp_condE ?_
         refine ⟨_, rfl, ?_, ?_⟩ <;> (intro hc; (try simp at hc); (all_goals first | (exfalso; omega) | skip))))
    all_goals first | (refine ⟨(pre ++ [d], rest, IntKind.wrap .i64 (a + 1)), ?_, ⟨?_, ?_⟩, ?_⟩; (focus (first | (simp; done) | (simp_all; done))); (focus (simp; done)); (focus (refine Eq.trans ?_ h2; clear h2; first | (simp [*]; done) | (simp_all; done) | (split <;> simp_all <;> omega) | (split <;> first | (exfalso; omega) | (simp_all; done)))); (focus (simp; done))) | (refine ⟨(pre ++ [d], rest, a), ?_, ⟨?_, ?_⟩, ?_⟩; (focus (first | (simp; done) | (simp_all; done))); (focus (simp; done)); (focus (refine Eq.trans ?_ h2; clear h2; first | (simp [*]; done) | (simp_all; done) | (split <;> simp_all <;> omega) | (split <;> first | (exfalso; omega) | (simp_all; done)))); (focus (simp; done))) | (simp_all [pf342]; done) | (simp_all [pf342]; omega) | (split at h2 <;> first | (exfalso; omega) | (simp_all [pf342]; done))

theorem t134 (aL : List XDead) (aE : Int) (hok_aL : aL.length ≤ 9223372036854775807) : Gw TT 134 [.one (.ro false (.sl 3 (aL.map XDead.e))), .one (.ro false (di aE))] = some (vb true, []) := by
  refine Gw_of (F := pf134) rfl rfl ?_
  show Wp _ pb134 _ _
  unfold pb134
  obtain ⟨n1, g1, a1, b1, s1⟩ := t215 false aL 1048576 (by omega) (by omega) hok_aL
  repeat' (first
    | with_reducible (first | refine wp_seq ?_ | refine wp_blk ?_ | refine wp_skip ?_ | refine wp_exit ?_ | refine wp_ret ?_ | refine seqQ_norm ?_ | refine seqQ_ret ?_ | refine seqQ_exit ?_ | refine blkQ_norm ?_ | refine blkQ_ret ?_ | refine blkQ_exit ?_ | refine loopQ_norm ?_ | refine loopQ_exit ?_ | refine loopQ_ret ?_ | refine endQ_ret ?_ | refine endQ_norm ?_ | refine endE_ret ?_ | refine endE_norm ?_ | refine endI_ret ?_ | refine endI_norm ?_)
    | (with_reducible refine wp_regK fun K hK => ?_
       simp[g1]
       repeat' (with_reducible first | refine hK _ ?_ | (refine psel ?_ ?_ <;> (intro hc; (try rw [Decidable.not_not] at hc); first | (exfalso; omega) | (try simp [hc, g1]))))
       all_goals (clear hK; clear K))
    | (with_reducible refine wp_condE ?_
       refine ⟨_, rfl, ?_, ?_⟩ <;> (intro hc; (try simp at hc); (all_goals first | (exfalso; omega) | skip))))
  · simp [pf134]
  have q1 := s1 (by omega)
  have hsm_aL := q1
  repeat' (first
    | with_reducible (first | refine wp_seq ?_ | refine wp_blk ?_ | refine wp_skip ?_ | refine wp_exit ?_ | refine wp_ret ?_ | refine seqQ_norm ?_ | refine seqQ_ret ?_ | refine seqQ_exit ?_ | refine blkQ_norm ?_ | refine blkQ_ret ?_ | refine blkQ_exit ?_ | refine loopQ_norm ?_ | refine loopQ_exit ?_ | refine loopQ_ret ?_ | refine endQ_ret ?_ | refine endQ_norm ?_ | refine endE_ret ?_ | refine endE_norm ?_ | refine endI_ret ?_ | refine endI_norm ?_)
    | (with_reducible refine wp_regK fun K hK => ?_
       simp[hsm_aL]
       repeat' (with_reducible first | refine hK _ ?_ | (refine psel ?_ ?_ <;> (intro hc; (try rw [Decidable.not_not] at hc); first | (exfalso; omega) | (try simp [hc, hsm_aL]))))
       all_goals (clear hK; clear K))
    | (with_reducible refine wp_condE ?_
       refine ⟨_, rfl, ?_, ?_⟩ <;> (intro hc; (try simp at hc); (all_goals first | (exfalso; omega) | skip))))
  all_goals first | (simp [pf134]; done) | (simp_all [pf134]; done)

end Go.Proofs.Ytphnbkhopedpgaa.OM
