/- What the functions answer. -/
import Derived.Test.YtphnbkhopedpgaaOMTypes
import Derived.Test.YtphnbkhopedpgaaOMTac2
import Derived.Test.YtphnbkhopedpgaaXWithoutPc0
set_option linter.all false
namespace Go.Proofs.Ytphnbkhopedpgaa.OM
set_option maxHeartbeats 4000000
set_option maxRecDepth 100000

def tab : List (Nat × PF) := [(64, pf64), (136, pf136), (147, pf147), (148, pf148), (172, pf172), (187, pf187), (215, pf215), (239, pf239), (240, pf240), (345, pf345)]
def TT (k : Nat) : Option PF := tab.lookup k

@[simp] theorem t239 (x_Buf : Int) (x_Gen : Int) (x_At : Int)  : Gw TT 239 [.st [.ro false (di x_Buf), .ro false (di x_Gen), .ro false (di x_At)]] = some (.st [.ro false (di x_Buf), .ro false (di x_Gen), .ro false (di x_At)], []) := by
  refine Gw_of (F := pf239) rfl rfl ?_
  show Wp _ pb239 _ _
  unfold pb239
  repeat' (first
    | with_reducible (first | refine wp_seq ?_ | refine wp_blk ?_ | refine wp_skip ?_ | refine wp_exit ?_ | refine wp_ret ?_ | refine seqQ_norm ?_ | refine seqQ_ret ?_ | refine seqQ_exit ?_ | refine blkQ_norm ?_ | refine blkQ_ret ?_ | refine blkQ_exit ?_ | refine loopQ_norm ?_ | refine loopQ_exit ?_ | refine loopQ_ret ?_ | refine endQ_ret ?_ | refine endQ_norm ?_ | refine endE_ret ?_ | refine endE_norm ?_ | refine endI_ret ?_ | refine endI_norm ?_)
    | (with_reducible refine wp_regK fun K hK => ?_
       simp
       repeat' (with_reducible first | refine hK _ ?_ | (refine psel ?_ ?_ <;> (intro hc; (try rw [Decidable.not_not] at hc); first | (exfalso; omega) | (try simp [hc]))))
       all_goals (clear hK; clear K))
    | (with_reducible refine wp_condE ?_
       refine ⟨_, rfl, ?_, ?_⟩ <;> (intro hc; (try simp at hc); (all_goals first | (exfalso; omega) | skip))))
  all_goals simp [pf239]

@[simp] theorem t240 (k0 : Bool) (l : List XDead) (h : l.length ≤ 1048576)  : Gw TT 240 [.one (.ro k0 (.sl 3 (l.map XDead.e)))] = some (.one (.own (.sl 3 (l.map XDead.e))), []) := by
  refine Gw_of (F := pf240) rfl rfl ?_
  show Wp _ pb240 _ _
  unfold pb240
  repeat' (first
    | with_reducible (first | refine wp_seq ?_ | refine wp_blk ?_ | refine wp_skip ?_ | refine wp_exit ?_ | refine wp_ret ?_ | refine seqQ_norm ?_ | refine seqQ_ret ?_ | refine seqQ_exit ?_ | refine blkQ_norm ?_ | refine blkQ_ret ?_ | refine blkQ_exit ?_ | refine loopQ_norm ?_ | refine loopQ_exit ?_ | refine loopQ_ret ?_ | refine endQ_ret ?_ | refine endQ_norm ?_ | refine endE_ret ?_ | refine endE_norm ?_ | refine endI_ret ?_ | refine endI_norm ?_)
    | (with_reducible refine wp_regK fun K hK => ?_
       simp
       repeat' (with_reducible first | refine hK _ ?_ | (refine psel ?_ ?_ <;> (intro hc; (try rw [Decidable.not_not] at hc); first | (exfalso; omega) | (try simp [hc]))))
       all_goals (clear hK; clear K))
    | (with_reducible refine wp_condE ?_
       refine ⟨_, rfl, ?_, ?_⟩ <;> (intro hc; (try simp at hc); (all_goals first | (exfalso; omega) | skip))))
  · refine wp_loopI (σ := List XDead × List XDead) (fun s => [(0, AV.v k0 (D.sl 3 (List.map XDead.e l)), none), (3, AV.pl 3 0 [], some (Rt.vir [C.own (D.sl 3 (s.1.map XDead.e ++ List.replicate s.2.length [.int .i64 0, .int .i64 0, .int .i64 0]))])), (4, AV.v false (di (s.1.length : Nat)), none)]) (fun s => l = s.1 ++ s.2) (fun s => s.2.length) ([], l) (by simp) rfl ?_
    rintro ⟨pre, rest⟩ h1
    simp only at h1
    subst h1
    simp only [List.length_append, List.length_cons] at h
    rcases rest with _ | ⟨⟨y_Buf, y_Gen, y_At⟩, rest⟩
    · unfold pl240_0
      repeat' (first
        | with_reducible (first | refine wp_seq ?_ | refine wp_blk ?_ | refine wp_skip ?_ | refine wp_exit ?_ | refine wp_ret ?_ | refine seqQ_norm ?_ | refine seqQ_ret ?_ | refine seqQ_exit ?_ | refine blkQ_norm ?_ | refine blkQ_ret ?_ | refine blkQ_exit ?_ | refine loopQ_norm ?_ | refine loopQ_exit ?_ | refine loopQ_ret ?_ | refine endQ_ret ?_ | refine endQ_norm ?_ | refine endE_ret ?_ | refine endE_norm ?_ | refine endI_ret ?_ | refine endI_norm ?_)
        | (with_reducible refine wp_regK fun K hK => ?_
           simp
           repeat' (with_reducible first | refine hK _ ?_ | (refine psel ?_ ?_ <;> (intro hc; (try rw [Decidable.not_not] at hc); first | (exfalso; omega) | (try simp [hc]))))
           all_goals (clear hK; clear K))
        | (with_reducible refine wp_condE ?_
           refine ⟨_, rfl, ?_, ?_⟩ <;> (intro hc; (try simp at hc); (all_goals first | (exfalso; omega) | skip))))
      all_goals simp [pf240]
    · unfold pl240_0
      simp only [List.length_cons] at h
      have hw : IntKind.wrap .i64 ((pre.length : Int) + 1) = (pre.length : Int) + 1 := wrap_i64 (by omega) (by omega)
      repeat' (first
        | with_reducible (first | refine wp_seq ?_ | refine wp_blk ?_ | refine wp_skip ?_ | refine wp_exit ?_ | refine wp_ret ?_ | refine seqQ_norm ?_ | refine seqQ_ret ?_ | refine seqQ_exit ?_ | refine blkQ_norm ?_ | refine blkQ_ret ?_ | refine blkQ_exit ?_ | refine loopQ_norm ?_ | refine loopQ_exit ?_ | refine loopQ_ret ?_ | refine endQ_ret ?_ | refine endQ_norm ?_ | refine endE_ret ?_ | refine endE_norm ?_ | refine endI_ret ?_ | refine endI_norm ?_)
        | (with_reducible refine wp_regK fun K hK => ?_
           simp[List.replicate_succ, hw]
           repeat' (with_reducible first | refine hK _ ?_ | (refine psel ?_ ?_ <;> (intro hc; (try rw [Decidable.not_not] at hc); first | (exfalso; omega) | (try simp [hc, List.replicate_succ, hw]))))
           all_goals (clear hK; clear K))
        | (with_reducible refine wp_condE ?_
           refine ⟨_, rfl, ?_, ?_⟩ <;> (intro hc; (try simp at hc); (all_goals first | (exfalso; omega) | skip))))
      all_goals exact ⟨(pre ++ [⟨y_Buf, y_Gen, y_At⟩], rest), by simp, by simp, by simp⟩

@[simp] theorem t147 (x_Buf : Int) (x_Gen : Int) (x_At : Int)  : Gw TT 147 [.st [.ro false (di x_Buf), .ro false (di x_Gen), .ro false (di x_At)], .st [.ro false (di x_Buf), .ro false (di x_Gen), .ro false (di x_At)]] = some (vb true, []) := by
  refine Gw_of (F := pf147) rfl rfl ?_
  show Wp _ pb147 _ _
  unfold pb147
  repeat' (first
    | with_reducible (first | refine wp_seq ?_ | refine wp_blk ?_ | refine wp_skip ?_ | refine wp_exit ?_ | refine wp_ret ?_ | refine seqQ_norm ?_ | refine seqQ_ret ?_ | refine seqQ_exit ?_ | refine blkQ_norm ?_ | refine blkQ_ret ?_ | refine blkQ_exit ?_ | refine loopQ_norm ?_ | refine loopQ_exit ?_ | refine loopQ_ret ?_ | refine endQ_ret ?_ | refine endQ_norm ?_ | refine endE_ret ?_ | refine endE_norm ?_ | refine endI_ret ?_ | refine endI_norm ?_)
    | (with_reducible refine wp_regK fun K hK => ?_
       simp
       repeat' (with_reducible first | refine hK _ ?_ | (refine psel ?_ ?_ <;> (intro hc; (try rw [Decidable.not_not] at hc); first | (exfalso; omega) | (try simp [hc]))))
       all_goals (clear hK; clear K))
    | (with_reducible refine wp_condE ?_
       refine ⟨_, rfl, ?_, ?_⟩ <;> (intro hc; (try simp at hc); (all_goals first | (exfalso; omega) | skip))))
  all_goals simp [pf147]

@[simp] theorem t148 (k0 k1 : Bool) (l : List XDead) (h : l.length ≤ 1048576)  : Gw TT 148 [.one (.ro k0 (.sl 3 (l.map XDead.e))), .one (.ro k1 (.sl 3 (l.map XDead.e)))] = some (vb true, []) := by
  refine Gw_of (F := pf148) rfl rfl ?_
  show Wp _ pb148 _ _
  unfold pb148
  repeat' (first
    | with_reducible (first | refine wp_seq ?_ | refine wp_blk ?_ | refine wp_skip ?_ | refine wp_exit ?_ | refine wp_ret ?_ | refine seqQ_norm ?_ | refine seqQ_ret ?_ | refine seqQ_exit ?_ | refine blkQ_norm ?_ | refine blkQ_ret ?_ | refine blkQ_exit ?_ | refine loopQ_norm ?_ | refine loopQ_exit ?_ | refine loopQ_ret ?_ | refine endQ_ret ?_ | refine endQ_norm ?_ | refine endE_ret ?_ | refine endE_norm ?_ | refine endI_ret ?_ | refine endI_norm ?_)
    | (with_reducible refine wp_regK fun K hK => ?_
       simp
       repeat' (with_reducible first | refine hK _ ?_ | (refine psel ?_ ?_ <;> (intro hc; (try rw [Decidable.not_not] at hc); first | (exfalso; omega) | (try simp [hc]))))
       all_goals (clear hK; clear K))
    | (with_reducible refine wp_condE ?_
       refine ⟨_, rfl, ?_, ?_⟩ <;> (intro hc; (try simp at hc); (all_goals first | (exfalso; omega) | skip))))
  · refine wp_loopI (σ := List XDead × List XDead) (fun s => [(0, AV.v k0 (D.sl 3 (List.map XDead.e l)), none), (1, AV.v k1 (D.sl 3 (List.map XDead.e l)), none), (5, AV.v false (di (s.1.length : Nat)), none)]) (fun s => l = s.1 ++ s.2) (fun s => s.2.length) ([], l) (by simp) rfl ?_
    rintro ⟨pre, rest⟩ h1
    simp only at h1
    subst h1
    simp only [List.length_append, List.length_cons] at h
    rcases rest with _ | ⟨⟨y_Buf, y_Gen, y_At⟩, rest⟩
    · unfold pl148_0
      repeat' (first
        | with_reducible (first | refine wp_seq ?_ | refine wp_blk ?_ | refine wp_skip ?_ | refine wp_exit ?_ | refine wp_ret ?_ | refine seqQ_norm ?_ | refine seqQ_ret ?_ | refine seqQ_exit ?_ | refine blkQ_norm ?_ | refine blkQ_ret ?_ | refine blkQ_exit ?_ | refine loopQ_norm ?_ | refine loopQ_exit ?_ | refine loopQ_ret ?_ | refine endQ_ret ?_ | refine endQ_norm ?_ | refine endE_ret ?_ | refine endE_norm ?_ | refine endI_ret ?_ | refine endI_norm ?_)
        | (with_reducible refine wp_regK fun K hK => ?_
           simp
           repeat' (with_reducible first | refine hK _ ?_ | (refine psel ?_ ?_ <;> (intro hc; (try rw [Decidable.not_not] at hc); first | (exfalso; omega) | (try simp [hc]))))
           all_goals (clear hK; clear K))
        | (with_reducible refine wp_condE ?_
           refine ⟨_, rfl, ?_, ?_⟩ <;> (intro hc; (try simp at hc); (all_goals first | (exfalso; omega) | skip))))
      all_goals simp [pf148]
    · unfold pl148_0
      simp only [List.length_cons] at h
      have hw : IntKind.wrap .i64 ((pre.length : Int) + 1) = (pre.length : Int) + 1 := wrap_i64 (by omega) (by omega)
      repeat' (first
        | with_reducible (first | refine wp_seq ?_ | refine wp_blk ?_ | refine wp_skip ?_ | refine wp_exit ?_ | refine wp_ret ?_ | refine seqQ_norm ?_ | refine seqQ_ret ?_ | refine seqQ_exit ?_ | refine blkQ_norm ?_ | refine blkQ_ret ?_ | refine blkQ_exit ?_ | refine loopQ_norm ?_ | refine loopQ_exit ?_ | refine loopQ_ret ?_ | refine endQ_ret ?_ | refine endQ_norm ?_ | refine endE_ret ?_ | refine endE_norm ?_ | refine endI_ret ?_ | refine endI_norm ?_)
        | (with_reducible refine wp_regK fun K hK => ?_
           simp[hw]
           repeat' (with_reducible first | refine hK _ ?_ | (refine psel ?_ ?_ <;> (intro hc; (try rw [Decidable.not_not] at hc); first | (exfalso; omega) | (try simp [hc, hw]))))
           all_goals (clear hK; clear K))
        | (with_reducible refine wp_condE ?_
           refine ⟨_, rfl, ?_, ?_⟩ <;> (intro hc; (try simp at hc); (all_goals first | (exfalso; omega) | skip))))
      all_goals exact ⟨(pre ++ [⟨y_Buf, y_Gen, y_At⟩], rest), by simp, by simp, by simp⟩

theorem t215 (k0 : Bool) (l : List XDead) (left : Int) (h0 : 0 ≤ left) (h1 : left ≤ 1048576) (hl : l.length ≤ 9223372036854775807) :
    ∃ n, Gw TT 215 [.one (.ro k0 (.sl 3 (l.map XDead.e))), vi left] = some (vi n, []) ∧ -1 ≤ n ∧ n ≤ left ∧ (0 ≤ n → l.length ≤ 1048576) := by
  refine Gw_ofI (F := pf215) rfl rfl ?_
  show Wp _ pb215 _ _
  unfold pb215
  have g : IntKind.wrap .i64 (left - (l.length : Int)) = left - (l.length : Int) := wrap_i64 (by omega) (by omega)
  repeat' (first
    | with_reducible (first | refine wp_seq ?_ | refine wp_blk ?_ | refine wp_skip ?_ | refine wp_exit ?_ | refine wp_ret ?_ | refine seqQ_norm ?_ | refine seqQ_ret ?_ | refine seqQ_exit ?_ | refine blkQ_norm ?_ | refine blkQ_ret ?_ | refine blkQ_exit ?_ | refine loopQ_norm ?_ | refine loopQ_exit ?_ | refine loopQ_ret ?_ | refine endQ_ret ?_ | refine endQ_norm ?_ | refine endE_ret ?_ | refine endE_norm ?_ | refine endI_ret ?_ | refine endI_norm ?_)
    | (with_reducible refine wp_regK fun K hK => ?_
       simp[g]
       repeat' (with_reducible first | refine hK _ ?_ | (refine psel ?_ ?_ <;> (intro hc; (try rw [Decidable.not_not] at hc); first | (exfalso; omega) | (try simp [hc, g]))))
       all_goals (clear hK; clear K))
    | (with_reducible refine wp_condE ?_
       refine ⟨_, rfl, ?_, ?_⟩ <;> (intro hc; (try simp at hc); (all_goals first | (exfalso; omega) | skip))))
  · exact ⟨-1, by simp [pf215], by omega, by omega, fun h => absurd h (by omega)⟩
  · exact ⟨left - (l.length : Int), by simp [pf215], by omega, by omega, fun _ => by omega⟩

theorem split_at {α : Type} (l : List α) (i : Nat) (h : i < l.length) : ∃ pre x rest, l = pre ++ x :: rest ∧ pre.length = i :=
  ⟨l.take i, l[i], l.drop (i + 1), by simp, by simp; omega⟩

@[simp] theorem take_mid {α : Type} {n : Nat} (l r : List α) (h : n = l.length) : (l ++ r).take n = l := by subst h; simp

@[simp] theorem bytesStr_map (l : List Int) : bytesStr (l.map eb) = some (l.map fun n => UInt8.ofNat n.toNat) := by
  induction l with
  | nil => rfl
  | cons n l ih =>
    have : bytesStr (List.map eb (n :: l)) = match bytesStr (l.map eb) with
      | some bs => some (UInt8.ofNat n.toNat :: bs)
      | none => none := rfl
    rw [this, ih]; rfl

@[simp] theorem ba_one (x : UInt8) : (ByteArray.mk #[x]).size = 1 := rfl

@[simp] theorem flatD_nil : flatD [] = true := rfl

@[simp] theorem flatD_map {α : Type} (f : α → List D) (l : List α) (h : ∀ x, (f x).all D.scal = true) : flatD (l.map f) = true := by
  simp only [flatD, List.all_map, List.all_eq_true, Function.comp]
  exact fun x _ => List.all_eq_true.1 (h x)

@[simp] theorem flatD_one (e : List D) (l : List (List D)) : flatD (e :: l) = (e.all D.scal && flatD l) := rfl

@[simp] theorem flatD_app (l m : List (List D)) : flatD (l ++ m) = (flatD l && flatD m) := by simp [flatD]

def ctDead : XDead → Int
  | ⟨y_Buf, y_Gen, y_At⟩ => 1 + 1 + 1

def ctDeads : List XDead → Int
  | [] => 0
  | x :: l => ctDead x + ctDeads l

def mkDead : Int → XDead → XDead
  | k, ⟨y_Buf, y_Gen, y_At⟩ => ⟨k, k + 1, k + 1 + 1⟩

def mkDeads : Int → List XDead → List XDead
  | _, [] => []
  | k, x :: l => mkDead k x :: mkDeads (k + ctDead x) l

theorem ctDead_pos : ∀ x : XDead, 1 ≤ ctDead x
  | ⟨y_Buf, y_Gen, y_At⟩ => by simp only [ctDead]; omega

theorem ctDeads_len : ∀ l : List XDead, (l.length : Int) ≤ ctDeads l
  | [] => by simp [ctDeads]
  | x :: l => by have h1 := ctDead_pos x; have h2 := ctDeads_len l; simp only [ctDeads, List.length_cons]; omega

theorem ctDeads_nn (l : List XDead) : 0 ≤ ctDeads l := by have := ctDeads_len l; omega

@[simp] theorem mkDeads_len : ∀ (k : Int) (l : List XDead), (mkDeads k l).length = l.length
  | _, [] => by simp [mkDeads]
  | k, x :: l => by simp [mkDeads, mkDeads_len]

theorem ctDeads_le : ∀ l : List XDead, ctDeads l = 3 * (l.length : Int)
  | [] => by simp [ctDeads]
  | x :: l => by have h2 := ctDeads_le l; simp only [ctDeads, List.length_cons, ctDead]; omega

@[simp] theorem t187 (l : List XDead) (k : Int) (h0 : 0 ≤ k) (hc : k + ctDeads l ≤ 4611686018427387904) : Gw TT 187 [.one (.own (.sl 3 (l.map XDead.e))), vi k] = some (vi (k + ctDeads l), [(0, 0, .own (.sl 3 ((mkDeads k l).map XDead.e)))]) := by
  refine Gw_of (F := pf187) rfl rfl ?_
  show Wp _ pb187 _ _
  unfold pb187
  generalize hM : mkDeads k l = M
  have hlen := ctDeads_len l
  repeat' (first
    | with_reducible (first | refine wp_seq ?_ | refine wp_blk ?_ | refine wp_skip ?_ | refine wp_exit ?_ | refine wp_ret ?_ | refine seqQ_norm ?_ | refine seqQ_ret ?_ | refine seqQ_exit ?_ | refine blkQ_norm ?_ | refine blkQ_ret ?_ | refine blkQ_exit ?_ | refine loopQ_norm ?_ | refine loopQ_exit ?_ | refine loopQ_ret ?_ | refine endQ_ret ?_ | refine endQ_norm ?_ | refine endE_ret ?_ | refine endE_norm ?_ | refine endI_ret ?_ | refine endI_norm ?_)
    | (with_reducible refine wp_regK fun K hK => ?_
       simp
       repeat' (with_reducible first | refine hK _ ?_ | (refine psel ?_ ?_ <;> (intro hc; (try rw [Decidable.not_not] at hc); first | (exfalso; omega) | (try simp [hc]))))
       all_goals (clear hK; clear K))
    | (with_reducible refine wp_condE ?_
       refine ⟨_, rfl, ?_, ?_⟩ <;> (intro hc; (try simp at hc); (all_goals first | (exfalso; omega) | skip))))
  · refine wp_loopI (σ := List XDead × List XDead × Int) (fun s => [(0, AV.pl 0 0 [], some (Rt.vir [C.own (D.sl 3 (s.1.map XDead.e ++ s.2.1.map XDead.e))])), (1, AV.v false (di s.2.2), none), (5, AV.v false (di ((s.1.length : Nat) : Int)), none)]) (fun s => M = s.1 ++ mkDeads s.2.2 s.2.1 ∧ s.2.2 + ctDeads s.2.1 = k + ctDeads l ∧ s.1.length + s.2.1.length = l.length ∧ 0 ≤ s.2.2) (fun s => s.2.1.length) ([], l, k) (by simp) ⟨hM.symm, rfl, by simp, h0⟩ ?_
    rintro ⟨pre, rest, k1⟩ ⟨h1, h2, h3, h4⟩
    simp only at h1 h2 h3 h4
    rcases rest with _ | ⟨⟨y_Buf, y_Gen, y_At⟩, rest⟩
    · unfold pl187_0
      simp only [mkDeads, ctDeads, List.append_nil, Int.add_zero] at h1 h2
      subst h1
      repeat' (first
        | with_reducible (first | refine wp_seq ?_ | refine wp_blk ?_ | refine wp_skip ?_ | refine wp_exit ?_ | refine wp_ret ?_ | refine seqQ_norm ?_ | refine seqQ_ret ?_ | refine seqQ_exit ?_ | refine blkQ_norm ?_ | refine blkQ_ret ?_ | refine blkQ_exit ?_ | refine loopQ_norm ?_ | refine loopQ_exit ?_ | refine loopQ_ret ?_ | refine endQ_ret ?_ | refine endQ_norm ?_ | refine endE_ret ?_ | refine endE_norm ?_ | refine endI_ret ?_ | refine endI_norm ?_)
        | (with_reducible refine wp_regK fun K hK => ?_
           simp
           repeat' (with_reducible first | refine hK _ ?_ | (refine psel ?_ ?_ <;> (intro hc; (try rw [Decidable.not_not] at hc); first | (exfalso; omega) | (try simp [hc]))))
           all_goals (clear hK; clear K))
        | (with_reducible refine wp_condE ?_
           refine ⟨_, rfl, ?_, ?_⟩ <;> (intro hc; (try simp at hc); (all_goals first | (exfalso; omega) | skip))))
      all_goals simp [pf187, h2]
    · unfold pl187_0
      simp only [mkDeads, ctDeads, mkDead, ctDead, List.length_cons] at h1 h2 h3
      have hnr := ctDeads_nn rest
      have hw0 : IntKind.wrap .i64 (k1 + 1) = k1 + 1 := wrap_i64 (by omega) (by omega)
      have hw1 : IntKind.wrap .i64 (k1 + 1 + 1) = k1 + 1 + 1 := wrap_i64 (by omega) (by omega)
      have hw2 : IntKind.wrap .i64 (k1 + 1 + 1 + 1) = k1 + 1 + 1 + 1 := wrap_i64 (by omega) (by omega)
      have hE : k1 + (1 + 1 + 1) = k1 + 1 + 1 + 1 := by omega
      rw [hE] at h1
      have hw : IntKind.wrap .i64 ((pre.length : Int) + 1) = (pre.length : Int) + 1 := wrap_i64 (by omega) (by omega)
      subst h1
      repeat' (first
        | with_reducible (first | refine wp_seq ?_ | refine wp_blk ?_ | refine wp_skip ?_ | refine wp_exit ?_ | refine wp_ret ?_ | refine seqQ_norm ?_ | refine seqQ_ret ?_ | refine seqQ_exit ?_ | refine blkQ_norm ?_ | refine blkQ_ret ?_ | refine blkQ_exit ?_ | refine loopQ_norm ?_ | refine loopQ_exit ?_ | refine loopQ_ret ?_ | refine endQ_ret ?_ | refine endQ_norm ?_ | refine endE_ret ?_ | refine endE_norm ?_ | refine endI_ret ?_ | refine endI_norm ?_)
        | (with_reducible refine wp_regK fun K hK => ?_
           simp[hw0, hw1, hw2, hw]
           repeat' (with_reducible first | refine hK _ ?_ | (refine psel ?_ ?_ <;> (intro hc; (try rw [Decidable.not_not] at hc); first | (exfalso; omega) | (try simp [hc, hw0, hw1, hw2, hw]))))
           all_goals (clear hK; clear K))
        | (with_reducible refine wp_condE ?_
           refine ⟨_, rfl, ?_, ?_⟩ <;> (intro hc; (try simp at hc); (all_goals first | (exfalso; omega) | skip))))
      all_goals first | (exfalso; simp_all; done) | exact ⟨(pre ++ [mkDead k1 ⟨y_Buf, y_Gen, y_At⟩], rest, k1 + 1 + 1 + 1), by simp [mkDead], ⟨by simp [mkDead, ctDead], by simp only; omega, by simp only [List.length_append, List.length_cons, List.length_nil]; omega, by simp only; omega⟩, by simp⟩

@[simp] theorem t172 (k0 : Bool) (l : List XDead) (k : Int) (h0 : 0 ≤ k) (hc : k + ctDeads l ≤ 4611686018427387904) : Gw TT 172 [.one (.ro k0 (.sl 3 ((mkDeads k l).map XDead.e))), vi k] = some (vi (k + ctDeads l), []) := by
  refine Gw_of (F := pf172) rfl rfl ?_
  show Wp _ pb172 _ _
  unfold pb172
  generalize hM : mkDeads k l = M
  have hlen := ctDeads_len l
  repeat' (first
    | with_reducible (first | refine wp_seq ?_ | refine wp_blk ?_ | refine wp_skip ?_ | refine wp_exit ?_ | refine wp_ret ?_ | refine seqQ_norm ?_ | refine seqQ_ret ?_ | refine seqQ_exit ?_ | refine blkQ_norm ?_ | refine blkQ_ret ?_ | refine blkQ_exit ?_ | refine loopQ_norm ?_ | refine loopQ_exit ?_ | refine loopQ_ret ?_ | refine endQ_ret ?_ | refine endQ_norm ?_ | refine endE_ret ?_ | refine endE_norm ?_ | refine endI_ret ?_ | refine endI_norm ?_)
    | (with_reducible refine wp_regK fun K hK => ?_
       simp
       repeat' (with_reducible first | refine hK _ ?_ | (refine psel ?_ ?_ <;> (intro hc; (try rw [Decidable.not_not] at hc); first | (exfalso; omega) | (try simp [hc]))))
       all_goals (clear hK; clear K))
    | (with_reducible refine wp_condE ?_
       refine ⟨_, rfl, ?_, ?_⟩ <;> (intro hc; (try simp at hc); (all_goals first | (exfalso; omega) | skip))))
  · refine wp_loopI (σ := List XDead × List XDead × Int) (fun s => [(0, AV.v k0 (D.sl 3 (M.map XDead.e)), none), (1, AV.v false (di s.2.2), none), (5, AV.v false (di ((s.1.length : Nat) : Int)), none)]) (fun s => M = s.1 ++ mkDeads s.2.2 s.2.1 ∧ s.2.2 + ctDeads s.2.1 = k + ctDeads l ∧ s.1.length + s.2.1.length = l.length ∧ 0 ≤ s.2.2) (fun s => s.2.1.length) ([], l, k) (by simp [hM]) ⟨hM.symm, rfl, by simp, h0⟩ ?_
    rintro ⟨pre, rest, k1⟩ ⟨h1, h2, h3, h4⟩
    simp only at h1 h2 h3 h4
    rcases rest with _ | ⟨⟨y_Buf, y_Gen, y_At⟩, rest⟩
    · unfold pl172_0
      simp only [mkDeads, ctDeads, List.append_nil, Int.add_zero] at h1 h2
      subst h1
      repeat' (first
        | with_reducible (first | refine wp_seq ?_ | refine wp_blk ?_ | refine wp_skip ?_ | refine wp_exit ?_ | refine wp_ret ?_ | refine seqQ_norm ?_ | refine seqQ_ret ?_ | refine seqQ_exit ?_ | refine blkQ_norm ?_ | refine blkQ_ret ?_ | refine blkQ_exit ?_ | refine loopQ_norm ?_ | refine loopQ_exit ?_ | refine loopQ_ret ?_ | refine endQ_ret ?_ | refine endQ_norm ?_ | refine endE_ret ?_ | refine endE_norm ?_ | refine endI_ret ?_ | refine endI_norm ?_)
        | (with_reducible refine wp_regK fun K hK => ?_
           simp
           repeat' (with_reducible first | refine hK _ ?_ | (refine psel ?_ ?_ <;> (intro hc; (try rw [Decidable.not_not] at hc); first | (exfalso; omega) | (try simp [hc]))))
           all_goals (clear hK; clear K))
        | (with_reducible refine wp_condE ?_
           refine ⟨_, rfl, ?_, ?_⟩ <;> (intro hc; (try simp at hc); (all_goals first | (exfalso; omega) | skip))))
      all_goals simp [pf172, h2]
    · unfold pl172_0
      simp only [mkDeads, ctDeads, mkDead, ctDead, List.length_cons] at h1 h2 h3
      have hnr := ctDeads_nn rest
      have hw0 : IntKind.wrap .i64 (k1 + 1) = k1 + 1 := wrap_i64 (by omega) (by omega)
      have hw1 : IntKind.wrap .i64 (k1 + 1 + 1) = k1 + 1 + 1 := wrap_i64 (by omega) (by omega)
      have hw2 : IntKind.wrap .i64 (k1 + 1 + 1 + 1) = k1 + 1 + 1 + 1 := wrap_i64 (by omega) (by omega)
      have hE : k1 + (1 + 1 + 1) = k1 + 1 + 1 + 1 := by omega
      rw [hE] at h1
      have hw : IntKind.wrap .i64 ((pre.length : Int) + 1) = (pre.length : Int) + 1 := wrap_i64 (by omega) (by omega)
      subst h1
      repeat' (first
        | with_reducible (first | refine wp_seq ?_ | refine wp_blk ?_ | refine wp_skip ?_ | refine wp_exit ?_ | refine wp_ret ?_ | refine seqQ_norm ?_ | refine seqQ_ret ?_ | refine seqQ_exit ?_ | refine blkQ_norm ?_ | refine blkQ_ret ?_ | refine blkQ_exit ?_ | refine loopQ_norm ?_ | refine loopQ_exit ?_ | refine loopQ_ret ?_ | refine endQ_ret ?_ | refine endQ_norm ?_ | refine endE_ret ?_ | refine endE_norm ?_ | refine endI_ret ?_ | refine endI_norm ?_)
        | (with_reducible refine wp_regK fun K hK => ?_
           simp[hw0, hw1, hw2, hw]
           repeat' (with_reducible first | refine hK _ ?_ | (refine psel ?_ ?_ <;> (intro hc; (try rw [Decidable.not_not] at hc); first | (exfalso; omega) | (try simp [hc, hw0, hw1, hw2, hw]))))
           all_goals (clear hK; clear K))
        | (with_reducible refine wp_condE ?_
           refine ⟨_, rfl, ?_, ?_⟩ <;> (intro hc; (try simp at hc); (all_goals first | (exfalso; omega) | skip))))
      all_goals first | (exfalso; simp_all; done) | exact ⟨(pre ++ [mkDead k1 ⟨y_Buf, y_Gen, y_At⟩], rest, k1 + 1 + 1 + 1), by simp [mkDead], ⟨by simp [mkDead, ctDead], by simp only; omega, by simp only [List.length_append, List.length_cons, List.length_nil]; omega, by simp only; omega⟩, by simp⟩

def withoutF (l : List XDead) (i : Int) : List XDead := if 0 ≤ i ∧ i < (l.length : Int) then l.take i.toNat ++ l.drop (i.toNat + 1) else l

def woF (i : Int) : Int → List XDead → List XDead
  | _, [] => []
  | n, d :: l => if n = i then woF i (n + 1) l else d :: woF i (n + 1) l

theorem woF_past (i : Int) : ∀ (l : List XDead) (n : Int), i < n → woF i n l = l
  | [], _, _ => rfl
  | d :: l, n, h => by rw [woF, if_neg (by omega), woF_past i l (n + 1) (by omega)]

theorem woF_eq (i : Int) : ∀ (l : List XDead) (n : Int), n ≤ i → woF i n l = l.take (i - n).toNat ++ l.drop ((i - n).toNat + 1)
  | [], _, _ => by simp [woF]
  | d :: l, n, h => by
    rw [woF]
    by_cases e : n = i
    · subst e
      rw [if_pos rfl, woF_past n l (n + 1) (by omega)]
      simp
    · rw [if_neg e, woF_eq i l (n + 1) (by omega), show (i - n).toNat = (i - (n + 1)).toNat + 1 from by omega]
      simp

theorem woF_without (l : List XDead) (i : Int) : woF i 0 l = withoutF l i := by
  unfold withoutF
  split
  · rename_i h
    rw [woF_eq i l 0 (by omega)]
    simp
  · rename_i h
    by_cases h0 : 0 ≤ i
    · rw [woF_eq i l 0 h0, List.take_of_length_le (by omega), List.drop_of_length_le (by omega)]
      simp
    · rw [woF_past i l 0 (by omega)]

theorem withoutF_mid (pre : List XDead) (d : XDead) (rest : List XDead) : withoutF (pre ++ d :: rest) (pre.length : Int) = pre ++ rest := by
  unfold withoutF
  rw [if_pos ⟨by omega, by simp only [List.length_append, List.length_cons]; omega⟩]
  simp

theorem withoutF_out {l : List XDead} {i : Int} (h : ¬ (0 ≤ i ∧ i < (l.length : Int))) : withoutF l i = l := by
  unfold withoutF; rw [if_neg h]

theorem withoutF_len (l : List XDead) (i : Int) : (withoutF l i).length ≤ l.length := by
  unfold withoutF
  split
  · simp; omega
  · exact Nat.le_refl _

@[simp] theorem take_all1 {α : Type} {n : Nat} (l r : List α) (x : α) (h : n = l.length + (r.length + 1)) : (l ++ x :: r).take n = l ++ x :: r := by
  rw [List.take_of_length_le]
  simp only [List.length_append, List.length_cons]
  omega

@[simp] theorem drop_mid1 {α : Type} {n : Nat} (l r : List α) (x : α) (h : n = l.length + 1) : (l ++ x :: r).drop n = r := by
  subst h
  rw [List.drop_append]
  simp

@[simp] theorem t64 (k0 : Bool) (l : List XDead) (i : Int) (h : l.length ≤ 1048576) : Gw TT 64 [.one (.ro k0 (.sl 3 (l.map XDead.e))), vi i] = some (.one (.own (.sl 3 ((withoutF l i).map XDead.e))), []) := by
  refine Gw_of (F := pf64) rfl rfl ?_
  show Wp _ pb64 _ _
  unfold pb64
  by_cases hb : 0 ≤ i ∧ i < (l.length : Int)
  · obtain ⟨pre, d, rest, rfl, hp⟩ := split_at l i.toNat (by omega)
    obtain rfl : i = (pre.length : Int) := by omega
    simp only [List.length_append, List.length_cons] at h hb
    have hw : IntKind.wrap .i64 ((pre.length : Int) + 1) = (pre.length : Int) + 1 := wrap_i64 (by omega) (by omega)
    have hm := withoutF_mid pre d rest
    have f1 : (pre.length : Int) ≤ (pre.length : Int) + ((rest.length : Int) + 1) := by omega
    have f2 : (pre.length : Int) + 1 ≤ (pre.length : Int) + ((rest.length : Int) + 1) := by omega
    have f3 : ((pre.length : Int) + 1).toNat = pre.length + 1 := by omega
    have f4 : (0 : Int) ≤ (pre.length : Int) + 1 := by omega
    repeat' (first
      | with_reducible (first | refine wp_seq ?_ | refine wp_blk ?_ | refine wp_skip ?_ | refine wp_exit ?_ | refine wp_ret ?_ | refine seqQ_norm ?_ | refine seqQ_ret ?_ | refine seqQ_exit ?_ | refine blkQ_norm ?_ | refine blkQ_ret ?_ | refine blkQ_exit ?_ | refine loopQ_norm ?_ | refine loopQ_exit ?_ | refine loopQ_ret ?_ | refine endQ_ret ?_ | refine endQ_norm ?_ | refine endE_ret ?_ | refine endE_norm ?_ | refine endI_ret ?_ | refine endI_norm ?_)
      | (with_reducible refine wp_regK fun K hK => ?_
         simp[hw, f1, f2, f3, f4]
         repeat' (with_reducible first | refine hK _ ?_ | (refine psel ?_ ?_ <;> (intro hc; (try rw [Decidable.not_not] at hc); first | (exfalso; omega) | (try simp [hc, hw, f1, f2, f3, f4]))))
         all_goals (clear hK; clear K))
      | (with_reducible refine wp_condE ?_
         refine ⟨_, rfl, ?_, ?_⟩ <;> (intro hc; (try simp at hc); (all_goals first | (exfalso; omega) | skip))))
    all_goals first | (simp_all [pf64]; done) | (exfalso; omega)
  · have hf := withoutF_out hb
    repeat' (first
      | with_reducible (first | refine wp_seq ?_ | refine wp_blk ?_ | refine wp_skip ?_ | refine wp_exit ?_ | refine wp_ret ?_ | refine seqQ_norm ?_ | refine seqQ_ret ?_ | refine seqQ_exit ?_ | refine blkQ_norm ?_ | refine blkQ_ret ?_ | refine blkQ_exit ?_ | refine loopQ_norm ?_ | refine loopQ_exit ?_ | refine loopQ_ret ?_ | refine endQ_ret ?_ | refine endQ_norm ?_ | refine endE_ret ?_ | refine endE_norm ?_ | refine endI_ret ?_ | refine endI_norm ?_)
      | (with_reducible refine wp_regK fun K hK => ?_
         simp
         repeat' (with_reducible first | refine hK _ ?_ | (refine psel ?_ ?_ <;> (intro hc; (try rw [Decidable.not_not] at hc); first | (exfalso; omega) | (try simp [hc]))))
         all_goals (clear hK; clear K))
      | (with_reducible refine wp_condE ?_
         refine ⟨_, rfl, ?_, ?_⟩ <;> (intro hc; (try simp at hc); (all_goals first | (exfalso; omega) | skip))))
    all_goals first | (simp_all [pf64]; done) | (exfalso; omega)

@[simp] theorem t345 (k0 : Bool) (l : List XDead) (i : Int) (h : l.length ≤ 1048576) : Gw TT 345 [.one (.ro k0 (.sl 3 (l.map XDead.e))), vi i] = some (.one (.own (.sl 3 ((withoutF l i).map XDead.e))), []) := by
  refine Gw_of (F := pf345) rfl rfl ?_
  show Wp _ pb345 _ _
  unfold pb345
  repeat' (first
    | with_reducible (first | refine wp_seq ?_ | refine wp_blk ?_ | refine wp_skip ?_ | refine wp_exit ?_ | refine wp_ret ?_ | refine seqQ_norm ?_ | refine seqQ_ret ?_ | refine seqQ_exit ?_ | refine blkQ_norm ?_ | refine blkQ_ret ?_ | refine blkQ_exit ?_ | refine loopQ_norm ?_ | refine loopQ_exit ?_ | refine loopQ_ret ?_ | refine endQ_ret ?_ | refine endQ_norm ?_ | refine endE_ret ?_ | refine endE_norm ?_ | refine endI_ret ?_ | refine endI_norm ?_)
    | (with_reducible refine wp_regK fun K hK => ?_
       simp
       repeat' (with_reducible first | refine hK _ ?_ | (refine psel ?_ ?_ <;> (intro hc; (try rw [Decidable.not_not] at hc); first | (exfalso; omega) | (try simp [hc]))))
       all_goals (clear hK; clear K))
    | (with_reducible refine wp_condE ?_
       refine ⟨_, rfl, ?_, ?_⟩ <;> (intro hc; (try simp at hc); (all_goals first | (exfalso; omega) | skip))))
  refine wp_loopI (σ := List (XDead) × List (XDead) × List (XDead)) (fun s => [(0, AV.v k0 (D.sl 3 (l.map XDead.e)), none), (1, AV.v false (di i), none), (5, AV.pl 5 0 [], some (Rt.vir [C.own (D.sl 3 ((s.2.2).map XDead.e))])), (6, AV.v false (di ((s.1.length : Nat) : Int)), none)]) (fun s => l = s.1 ++ s.2.1 ∧ s.2.2 ++ woF i ((s.1.length : Nat) : Int) s.2.1 = woF i (0 : Int) l ∧ s.2.2.length ≤ s.1.length) (fun s => s.2.1.length) ([], l, []) (by simp) ⟨rfl, by first | rfl | simp, Nat.le_refl _⟩ ?_
  rintro ⟨pre, rest, a⟩ ⟨h1, h2, h3⟩
  simp only at h1 h2 h3
  subst h1
  simp only [List.length_append, List.length_cons] at h
  rcases rest with _ | ⟨d, rest⟩
  · unfold pl345_0
    try simp only [woF, List.append_nil] at h2
    repeat' (first
      | with_reducible (first | refine wp_seq ?_ | refine wp_blk ?_ | refine wp_skip ?_ | refine wp_exit ?_ | refine wp_ret ?_ | refine seqQ_norm ?_ | refine seqQ_ret ?_ | refine seqQ_exit ?_ | refine blkQ_norm ?_ | refine blkQ_ret ?_ | refine blkQ_exit ?_ | refine loopQ_norm ?_ | refine loopQ_exit ?_ | refine loopQ_ret ?_ | refine endQ_ret ?_ | refine endQ_norm ?_ | refine endE_ret ?_ | refine endE_norm ?_ | refine endI_ret ?_ | refine endI_norm ?_)
      | (with_reducible refine wp_regK fun K hK => ?_
         simp
         repeat' (with_reducible first | refine hK _ ?_ | (refine psel ?_ ?_ <;> (intro hc; (try rw [Decidable.not_not] at hc); first | (exfalso; omega) | (try simp [hc]))))
         all_goals (clear hK; clear K))
      | (with_reducible refine wp_condE ?_
         refine ⟨_, rfl, ?_, ?_⟩ <;> (intro hc; (try simp at hc); (all_goals first | (exfalso; omega) | skip))))
    all_goals first | (simp_all [pf345, woF_without]; done) | (simp_all [pf345, woF_without]; omega)
  · unfold pl345_0
    simp only [List.length_cons] at h
    try simp only [woF] at h2
    have hw : IntKind.wrap .i64 ((pre.length : Int) + 1) = (pre.length : Int) + 1 := wrap_i64 (by omega) (by omega)
    repeat' (first
      | with_reducible (first | refine wp_seq ?_ | refine wp_blk ?_ | refine wp_skip ?_ | refine wp_exit ?_ | refine wp_ret ?_ | refine seqQ_norm ?_ | refine seqQ_ret ?_ | refine seqQ_exit ?_ | refine blkQ_norm ?_ | refine blkQ_ret ?_ | refine blkQ_exit ?_ | refine loopQ_norm ?_ | refine loopQ_exit ?_ | refine loopQ_ret ?_ | refine endQ_ret ?_ | refine endQ_norm ?_ | refine endE_ret ?_ | refine endE_norm ?_ | refine endI_ret ?_ | refine endI_norm ?_)
      | (with_reducible refine wp_regK fun K hK => ?_
         simp[hw]
         repeat' (with_reducible first | refine hK _ ?_ | (refine psel ?_ ?_ <;> (intro hc; (try rw [Decidable.not_not] at hc); first | (exfalso; omega) | (try simp [hc, hw]))))
         all_goals (clear hK; clear K))
      | (with_reducible refine wp_condE ?_
         refine ⟨_, rfl, ?_, ?_⟩ <;> (intro hc; (try simp at hc); (all_goals first | (exfalso; omega) | skip))))
    all_goals first | (refine ⟨(pre ++ [d], rest, a ++ [d]), ?_, ⟨?_, ?_, ?_⟩, ?_⟩; (focus (first | (simp; done) | (simp_all; done))); (focus (simp; done)); (focus (refine Eq.trans ?_ h2; clear h2; first | (simp [*]; done) | (simp_all; done)));  (focus (simp only [List.length_append, List.length_cons, List.length_nil]; omega)); (focus (simp; done))) | (refine ⟨(pre ++ [d], rest, a), ?_, ⟨?_, ?_, ?_⟩, ?_⟩; (focus (first | (simp; done) | (simp_all; done))); (focus (simp; done)); (focus (refine Eq.trans ?_ h2; clear h2; first | (simp [*]; done) | (simp_all; done)));  (focus (simp only [List.length_append, List.length_cons, List.length_nil]; omega)); (focus (simp; done))) | (simp_all [pf345, woF_without]; done) | (exfalso; omega)

theorem t136 (aL : List XDead) (aI : Int) (hok_aL : aL.length ≤ 9223372036854775807) : Gw TT 136 [.one (.ro false (.sl 3 (aL.map XDead.e))), .one (.ro false (di aI))] = some (vb true, []) := by
  refine Gw_of (F := pf136) rfl rfl ?_
  show Wp _ pb136 _ _
  unfold pb136
  obtain ⟨n1, g1, a1, b1, s1⟩ := t215 false aL 1048576 (by omega) (by omega) hok_aL
  repeat' (first
    | with_reducible (first | refine wp_seq ?_ | refine wp_blk ?_ | refine wp_skip ?_ | refine wp_exit ?_ | refine wp_ret ?_ | refine seqQ_norm ?_ | refine seqQ_ret ?_ | refine seqQ_exit ?_ | refine blkQ_norm ?_ | refine blkQ_ret ?_ | refine blkQ_exit ?_ | refine loopQ_norm ?_ | refine loopQ_exit ?_ | refine loopQ_ret ?_ | refine endQ_ret ?_ | refine endQ_norm ?_ | refine endE_ret ?_ | refine endE_norm ?_ | refine endI_ret ?_ | refine endI_norm ?_)
    | (with_reducible refine wp_regK fun K hK => ?_
       simp[g1]
       repeat' (with_reducible first | refine hK _ ?_ | (refine psel ?_ ?_ <;> (intro hc; (try rw [Decidable.not_not] at hc); first | (exfalso; omega) | (try simp [hc, g1]))))
       all_goals (clear hK; clear K))
    | (with_reducible refine wp_condE ?_
       refine ⟨_, rfl, ?_, ?_⟩ <;> (intro hc; (try simp at hc); (all_goals first | (exfalso; omega) | skip))))
  · simp [pf136]
  have q1 := s1 (by omega)
  have hsm_aL := q1
  have cn0 := ctDeads_nn (aL)
  have cl0 := ctDeads_le (aL)
  have ch0 : (aL).length ≤ 1048576 := hsm_aL
  have cb0 : 1 + ctDeads aL ≤ 4611686018427387904 := by omega
  have cn1 := ctDeads_nn (withoutF aL aI)
  have cl1 := ctDeads_le (withoutF aL aI)
  have ch1 : (withoutF aL aI).length ≤ 1048576 := Nat.le_trans (withoutF_len aL aI) hsm_aL
  have cb1 : 1 + ctDeads (withoutF aL aI) ≤ 4611686018427387904 := by omega
  repeat' (first
    | with_reducible (first | refine wp_seq ?_ | refine wp_blk ?_ | refine wp_skip ?_ | refine wp_exit ?_ | refine wp_ret ?_ | refine seqQ_norm ?_ | refine seqQ_ret ?_ | refine seqQ_exit ?_ | refine blkQ_norm ?_ | refine blkQ_ret ?_ | refine blkQ_exit ?_ | refine loopQ_norm ?_ | refine loopQ_exit ?_ | refine loopQ_ret ?_ | refine endQ_ret ?_ | refine endQ_norm ?_ | refine endE_ret ?_ | refine endE_norm ?_ | refine endI_ret ?_ | refine endI_norm ?_)
    | (with_reducible refine wp_regK fun K hK => ?_
       simp[hsm_aL, ch0, cb0, ch1, cb1]
       repeat' (with_reducible first | refine hK _ ?_ | (refine psel ?_ ?_ <;> (intro hc; (try rw [Decidable.not_not] at hc); first | (exfalso; omega) | (try simp [hc, hsm_aL, ch0, cb0, ch1, cb1]))))
       all_goals (clear hK; clear K))
    | (with_reducible refine wp_condE ?_
       refine ⟨_, rfl, ?_, ?_⟩ <;> (intro hc; (try simp at hc); (all_goals first | (exfalso; omega) | skip))))
  all_goals first | (simp [pf136]; done) | (simp_all [pf136]; done)

@[simp] theorem take_len_map {α β : Type} (f : α → β) (l : List α) : (l.map f).take l.length = l.map f := by
  rw [List.take_of_length_le]; simp

@[simp] theorem flatD_drop_map {α : Type} (f : α → List D) (l : List α) (n : Nat) (h : ∀ x, (f x).all D.scal = true) : flatD ((l.map f).drop n) = true := by
  rw [← List.map_drop]; exact flatD_map f _ h

@[simp] theorem flatD_take_map {α : Type} (f : α → List D) (l : List α) (n : Nat) (h : ∀ x, (f x).all D.scal = true) : flatD ((l.map f).take n) = true := by
  rw [← List.map_take]; exact flatD_map f _ h

@[simp] theorem live_int (k : IntKind) (n : Int) : (D.int k n).live = true := rfl

@[simp] theorem live_bool (b : Bool) : (D.bool b).live = true := rfl

@[simp] theorem live_str (s : ByteArray) : (D.str s).live = true := rfl

@[simp] theorem live_sl (sz : Nat) (es : List (List D)) : (D.sl sz es).live = true := rfl

end Go.Proofs.Ytphnbkhopedpgaa.OM
