/- What the functions answer. -/
import Derived.Test.YtkgibccknlbiaaaOMTypes
import Derived.Test.YtkgibccknlbiaaaOMTac2
import Derived.Test.YtkgibccknlbiaaaXFWholesPc0
set_option linter.all false
namespace Go.Proofs.Ytkgibccknlbiaaa.OM
set_option maxHeartbeats 4000000
set_option maxRecDepth 100000

def tab : List (Nat × PF) := [(7, pf7), (8, pf8), (9, pf9), (10, pf10), (19, pf19), (44, pf44), (54, pf54), (55, pf55), (60, pf60), (62, pf62), (70, pf70), (76, pf76), (78, pf78), (79, pf79), (87, pf87), (140, pf140), (141, pf141), (199, pf199), (208, pf208), (209, pf209), (263, pf263), (264, pf264), (265, pf265), (266, pf266), (274, pf274), (275, pf275), (288, pf288), (290, pf290), (293, pf293), (298, pf298), (323, pf323), (325, pf325), (335, pf335), (336, pf336), (341, pf341), (343, pf343), (347, pf347), (357, pf357), (358, pf358), (359, pf359), (360, pf360), (375, pf375), (376, pf376), (377, pf377), (378, pf378), (379, pf379), (380, pf380), (381, pf381), (382, pf382), (383, pf383), (384, pf384), (385, pf385), (393, pf393), (394, pf394), (395, pf395), (396, pf396), (398, pf398), (399, pf399), (401, pf401)]
def TT (k : Nat) : Option PF := tab.lookup k

@[simp] theorem t87 (x a b : Int) : Gw TT 87 [vi x, vi a, vi b] = some (vb (decide (a ≤ x) && decide (x ≤ b)), []) := by
  refine Gw_of (F := pf87) rfl rfl ?_
  show Wp _ pb87 _ _
  unfold pb87
  repeat' (first
    | with_reducible (first | refine wp_seq ?_ | refine wp_blk ?_ | refine wp_skip ?_ | refine wp_exit ?_ | refine wp_ret ?_ | refine seqQ_norm ?_ | refine seqQ_ret ?_ | refine seqQ_exit ?_ | refine blkQ_norm ?_ | refine blkQ_ret ?_ | refine blkQ_exit ?_ | refine loopQ_norm ?_ | refine loopQ_exit ?_ | refine loopQ_ret ?_ | refine endQ_ret ?_ | refine endQ_norm ?_ | refine endE_ret ?_ | refine endE_norm ?_ | refine endI_ret ?_ | refine endI_norm ?_)
    | (with_reducible refine wp_regK fun K hK => ?_
       simp
       repeat' (with_reducible first | refine hK _ ?_ | (refine psel ?_ ?_ <;> (intro hc; (try rw [Decidable.not_not] at hc); first | (exfalso; omega) | (try simp [hc]))))
       all_goals (clear hK; clear K))
    | (with_reducible refine wp_condE ?_
       refine ⟨_, rfl, ?_, ?_⟩ <;> (intro hc; (try simp at hc); (all_goals first | (exfalso; omega) | skip))))
  all_goals first | (simp_all [pf87]; done) | (simp_all [pf87]; omega)

@[simp] theorem t377 (x a b : Int) : Gw TT 377 [vi x, vi a, vi b] = some (vb (decide (a ≤ x) && decide (x ≤ b)), []) := by
  refine Gw_of (F := pf377) rfl rfl ?_
  show Wp _ pb377 _ _
  unfold pb377
  repeat' (first
    | with_reducible (first | refine wp_seq ?_ | refine wp_blk ?_ | refine wp_skip ?_ | refine wp_exit ?_ | refine wp_ret ?_ | refine seqQ_norm ?_ | refine seqQ_ret ?_ | refine seqQ_exit ?_ | refine blkQ_norm ?_ | refine blkQ_ret ?_ | refine blkQ_exit ?_ | refine loopQ_norm ?_ | refine loopQ_exit ?_ | refine loopQ_ret ?_ | refine endQ_ret ?_ | refine endQ_norm ?_ | refine endE_ret ?_ | refine endE_norm ?_ | refine endI_ret ?_ | refine endI_norm ?_)
    | (with_reducible refine wp_regK fun K hK => ?_
       simp
       repeat' (with_reducible first | refine hK _ ?_ | (refine psel ?_ ?_ <;> (intro hc; (try rw [Decidable.not_not] at hc); first | (exfalso; omega) | (try simp [hc]))))
       all_goals (clear hK; clear K))
    | (with_reducible refine wp_condE ?_
       refine ⟨_, rfl, ?_, ?_⟩ <;> (intro hc; (try simp at hc); (all_goals first | (exfalso; omega) | skip))))
  all_goals first | (simp_all [pf377]; done) | (simp_all [pf377]; omega)

@[simp] theorem take_mid {α : Type} {n : Nat} (l r : List α) (h : n = l.length) : (l ++ r).take n = l := by subst h; simp

@[simp] theorem bytesStr_map (l : List Int) : bytesStr (l.map eb) = some (l.map fun n => UInt8.ofNat n.toNat) := by
  induction l with
  | nil => rfl
  | cons n l ih =>
    have : bytesStr (List.map eb (n :: l)) = match bytesStr (l.map eb) with
      | some bs => some (UInt8.ofNat n.toNat :: bs)
      | none => none := rfl
    rw [this, ih]; rfl

@[simp] theorem t78 (k0 : Bool) (x_Next : Int) (x_L : List XSlot) (i : Int) : Gw TT 78 [.st [.ro false (di x_Next), .ro k0 (.sl 2 (x_L.map XSlot.e))], vi i] = some (vb (decide (0 ≤ i) && decide (i < (x_L.length : Int))), []) := by
  refine Gw_of (F := pf78) rfl rfl ?_
  show Wp _ pb78 _ _
  unfold pb78
  repeat' (first
    | with_reducible (first | refine wp_seq ?_ | refine wp_blk ?_ | refine wp_skip ?_ | refine wp_exit ?_ | refine wp_ret ?_ | refine seqQ_norm ?_ | refine seqQ_ret ?_ | refine seqQ_exit ?_ | refine blkQ_norm ?_ | refine blkQ_ret ?_ | refine blkQ_exit ?_ | refine loopQ_norm ?_ | refine loopQ_exit ?_ | refine loopQ_ret ?_ | refine endQ_ret ?_ | refine endQ_norm ?_ | refine endE_ret ?_ | refine endE_norm ?_ | refine endI_ret ?_ | refine endI_norm ?_)
    | (with_reducible refine wp_regK fun K hK => ?_
       simp
       repeat' (with_reducible first | refine hK _ ?_ | (refine psel ?_ ?_ <;> (intro hc; (try rw [Decidable.not_not] at hc); first | (exfalso; omega) | (try simp [hc]))))
       all_goals (clear hK; clear K))
    | (with_reducible refine wp_condE ?_
       refine ⟨_, rfl, ?_, ?_⟩ <;> (intro hc; (try simp at hc); (all_goals first | (exfalso; omega) | skip))))
  all_goals first | (simp_all [pf78]; done) | (simp_all [pf78]; omega)

@[simp] theorem flatD_nil : flatD [] = true := rfl

@[simp] theorem flatD_map {α : Type} (f : α → List D) (l : List α) (h : ∀ x, (f x).all D.scal = true) : flatD (l.map f) = true := by
  simp only [flatD, List.all_map, List.all_eq_true, Function.comp]
  exact fun x _ => List.all_eq_true.1 (h x)

@[simp] theorem flatD_one (e : List D) (l : List (List D)) : flatD (e :: l) = (e.all D.scal && flatD l) := rfl

@[simp] theorem flatD_app (l m : List (List D)) : flatD (l ++ m) = (flatD l && flatD m) := by simp [flatD]

@[simp] theorem live_int (k : IntKind) (n : Int) : (D.int k n).live = true := rfl

@[simp] theorem live_bool (b : Bool) : (D.bool b).live = true := rfl

@[simp] theorem live_str (s : ByteArray) : (D.str s).live = true := rfl

@[simp] theorem live_sl (sz : Nat) (es : List (List D)) : (D.sl sz es).live = true := rfl

@[simp] theorem ba_one (x : UInt8) : (ByteArray.mk #[x]).size = 1 := rfl

@[simp] theorem take_all1 {α : Type} {n : Nat} (l r : List α) (x : α) (h : n = l.length + (r.length + 1)) : (l ++ x :: r).take n = l ++ x :: r := by
  rw [List.take_of_length_le]
  simp only [List.length_append, List.length_cons]
  omega

@[simp] theorem drop_mid1 {α : Type} {n : Nat} (l r : List α) (x : α) (h : n = l.length + 1) : (l ++ x :: r).drop n = r := by
  subst h
  rw [List.drop_append]
  simp

@[simp] theorem take_len_map {α β : Type} (f : α → β) (l : List α) : (l.map f).take l.length = l.map f := by
  rw [List.take_of_length_le]; simp

@[simp] theorem flatD_drop_map {α : Type} (f : α → List D) (l : List α) (n : Nat) (h : ∀ x, (f x).all D.scal = true) : flatD ((l.map f).drop n) = true := by
  rw [← List.map_drop]; exact flatD_map f _ h

@[simp] theorem flatD_take_map {α : Type} (f : α → List D) (l : List α) (n : Nat) (h : ∀ x, (f x).all D.scal = true) : flatD ((l.map f).take n) = true := by
  rw [← List.map_take]; exact flatD_map f _ h

@[simp] theorem t76 (k0 : Bool) (l : List XVal) (h : l.length ≤ 1048576) : Gw TT 76 [.one (.ro k0 (.sl 3 (l.map XVal.e)))] = some (.one (.own (.sl 3 (l.map XVal.e))), []) := by
  refine Gw_of (F := pf76) rfl rfl ?_
  show Wp _ pb76 _ _
  unfold pb76
  repeat' (first
    | with_reducible (first | refine wp_seq ?_ | refine wp_blk ?_ | refine wp_skip ?_ | refine wp_exit ?_ | refine wp_ret ?_ | refine seqQ_norm ?_ | refine seqQ_ret ?_ | refine seqQ_exit ?_ | refine blkQ_norm ?_ | refine blkQ_ret ?_ | refine blkQ_exit ?_ | refine loopQ_norm ?_ | refine loopQ_exit ?_ | refine loopQ_ret ?_ | refine endQ_ret ?_ | refine endQ_norm ?_ | refine endE_ret ?_ | refine endE_norm ?_ | refine endI_ret ?_ | refine endI_norm ?_)
    | (with_reducible refine wp_regK fun K hK => ?_
       simp[h]
       repeat' (with_reducible first | refine hK _ ?_ | (refine psel ?_ ?_ <;> (intro hc; (try rw [Decidable.not_not] at hc); first | (exfalso; omega) | (try simp [hc, h]))))
       all_goals (clear hK; clear K))
    | (with_reducible refine wp_condE ?_
       refine ⟨_, rfl, ?_, ?_⟩ <;> (intro hc; (try simp at hc); (all_goals first | (exfalso; omega) | skip))))
  all_goals first | (simp [pf76]; done) | (exfalso; omega)

@[simp] theorem t70 (k0 : Bool) (x_Next : Int) (x_L : List XSlot) (h : x_L.length ≤ 1048576) (hs : XSlot.sms x_L) : Gw TT 70 [.st [.ro false (di x_Next), .ro k0 (.sl 2 (x_L.map XSlot.e))]] = some (.st [.ro false (di x_Next), .own (.sl 2 (x_L.map XSlot.e))], []) := by
  refine Gw_of (F := pf70) rfl rfl ?_
  show Wp _ pb70 _ _
  unfold pb70
  repeat' (first
    | with_reducible (first | refine wp_seq ?_ | refine wp_blk ?_ | refine wp_skip ?_ | refine wp_exit ?_ | refine wp_ret ?_ | refine seqQ_norm ?_ | refine seqQ_ret ?_ | refine seqQ_exit ?_ | refine blkQ_norm ?_ | refine blkQ_ret ?_ | refine blkQ_exit ?_ | refine loopQ_norm ?_ | refine loopQ_exit ?_ | refine loopQ_ret ?_ | refine endQ_ret ?_ | refine endQ_norm ?_ | refine endE_ret ?_ | refine endE_norm ?_ | refine endI_ret ?_ | refine endI_norm ?_)
    | (with_reducible refine wp_regK fun K hK => ?_
       simp
       repeat' (with_reducible first | refine hK _ ?_ | (refine psel ?_ ?_ <;> (intro hc; (try rw [Decidable.not_not] at hc); first | (exfalso; omega) | (try simp [hc]))))
       all_goals (clear hK; clear K))
    | (with_reducible refine wp_condE ?_
       refine ⟨_, rfl, ?_, ?_⟩ <;> (intro hc; (try simp at hc); (all_goals first | (exfalso; omega) | skip))))
  refine wp_loopI (σ := List (XSlot) × List (XSlot) × List (XSlot)) (fun s => [(1, AV.bx 1 0, some (Rt.bx [.ro false (di x_Next), .ro k0 (.sl 2 (x_L.map XSlot.e))])), (2, AV.bx 2 0, some (Rt.bx [.ro false (di 0), .own (.sl 2 [])])), (3, AV.bx 3 0, some (Rt.bx [.ro false (di x_Next), .own (.sl 2 ((s.2.2).map XSlot.e))])), (10, AV.v k0 (D.sl 2 (x_L.map XSlot.e)), none), (11, AV.v false (di (x_L.length : Nat)), none), (12, AV.v false (di ((s.1.length : Nat) : Int)), none)]) (fun s => x_L = s.1 ++ s.2.1 ∧ s.2.2 ++ s.2.1 = x_L ∧ s.2.2.length ≤ s.1.length) (fun s => s.2.1.length) ([], x_L, []) (by simp) ⟨rfl, by first | rfl | simp, Nat.le_refl _⟩ ?_
  rintro ⟨pre, rest, a⟩ ⟨h1, h2, h3⟩
  simp only at h1 h2 h3
  subst h1
  simp only [List.length_append, List.length_cons] at h
  rcases rest with _ | ⟨d, rest⟩
  · unfold pl70_0
    try simp only [List.append_nil, List.append_nil] at h2
    repeat' (first
      | with_reducible (first | refine wp_seq ?_ | refine wp_blk ?_ | refine wp_skip ?_ | refine wp_exit ?_ | refine wp_ret ?_ | refine seqQ_norm ?_ | refine seqQ_ret ?_ | refine seqQ_exit ?_ | refine blkQ_norm ?_ | refine blkQ_ret ?_ | refine blkQ_exit ?_ | refine loopQ_norm ?_ | refine loopQ_exit ?_ | refine loopQ_ret ?_ | refine endQ_ret ?_ | refine endQ_norm ?_ | refine endE_ret ?_ | refine endE_norm ?_ | refine endI_ret ?_ | refine endI_norm ?_)
      | (with_reducible refine wp_regK fun K hK => ?_
         simp
         repeat' (with_reducible first | refine hK _ ?_ | (refine psel ?_ ?_ <;> (intro hc; (try rw [Decidable.not_not] at hc); first | (exfalso; omega) | (try simp [hc]))))
         all_goals (clear hK; clear K))
      | (with_reducible refine wp_condE ?_
         refine ⟨_, rfl, ?_, ?_⟩ <;> (intro hc; (try simp at hc); (all_goals first | (exfalso; omega) | skip))))
    all_goals first | (simp_all [pf70]; done) | (simp_all [pf70]; omega)
  · unfold pl70_0
    simp only [List.length_cons] at h
    try simp only [List.append_nil] at h2
    have hw : IntKind.wrap .i64 ((pre.length : Int) + 1) = (pre.length : Int) + 1 := wrap_i64 (by omega) (by omega)
    have hd := hs d (by simp)
    simp only [XSlot.sm, and_assoc] at hd
    obtain ⟨hsm_L, hsms_L⟩ := hd
    have hq1 : (a.length + 1) * 32 ≤ 70368744177664 := by omega
    have hq2 : d.L.length * 32 ≤ 70368744177664 := by omega
    repeat' (first
      | with_reducible (first | refine wp_seq ?_ | refine wp_blk ?_ | refine wp_skip ?_ | refine wp_exit ?_ | refine wp_ret ?_ | refine seqQ_norm ?_ | refine seqQ_ret ?_ | refine seqQ_exit ?_ | refine blkQ_norm ?_ | refine blkQ_ret ?_ | refine blkQ_exit ?_ | refine loopQ_norm ?_ | refine loopQ_exit ?_ | refine loopQ_ret ?_ | refine endQ_ret ?_ | refine endQ_norm ?_ | refine endE_ret ?_ | refine endE_norm ?_ | refine endI_ret ?_ | refine endI_norm ?_)
      | (with_reducible refine wp_regK fun K hK => ?_
         simp[hw, hsm_L, hsms_L, hq1, hq2]
         repeat' (with_reducible first | refine hK _ ?_ | (refine psel ?_ ?_ <;> (intro hc; (try rw [Decidable.not_not] at hc); first | (exfalso; omega) | (try simp [hc, hw, hsm_L, hsms_L, hq1, hq2]))))
         all_goals (clear hK; clear K))
      | (with_reducible refine wp_condE ?_
         refine ⟨_, rfl, ?_, ?_⟩ <;> (intro hc; (try simp at hc); (all_goals first | (exfalso; omega) | skip))))
    all_goals first | (refine ⟨(pre ++ [d], rest, a ++ [d]), ?_, ⟨?_, ?_, ?_⟩, ?_⟩; (focus (first | (simp; done) | (simp_all; done))); (focus (simp; done)); (focus (refine Eq.trans ?_ h2; clear h2; first | (simp [*]; done) | (simp_all; done)));  (focus (simp only [List.length_append, List.length_cons, List.length_nil]; omega)); (focus (simp; done))) | (simp_all [pf70]; done) | (exfalso; omega)

@[simp] theorem t359 (k0 : Bool) (x_Next : Int) (x_L : List XSlot) (h : x_L.length ≤ 1048576) (hs : XSlot.sms x_L) : Gw TT 359 [.st [.ro false (di x_Next), .ro k0 (.sl 2 (x_L.map XSlot.e))]] = some (.st [.ro false (di x_Next), .own (.sl 2 (x_L.map XSlot.e))], []) := by
  refine Gw_of (F := pf359) rfl rfl ?_
  show Wp _ pb359 _ _
  unfold pb359
  repeat' (first
    | with_reducible (first | refine wp_seq ?_ | refine wp_blk ?_ | refine wp_skip ?_ | refine wp_exit ?_ | refine wp_ret ?_ | refine seqQ_norm ?_ | refine seqQ_ret ?_ | refine seqQ_exit ?_ | refine blkQ_norm ?_ | refine blkQ_ret ?_ | refine blkQ_exit ?_ | refine loopQ_norm ?_ | refine loopQ_exit ?_ | refine loopQ_ret ?_ | refine endQ_ret ?_ | refine endQ_norm ?_ | refine endE_ret ?_ | refine endE_norm ?_ | refine endI_ret ?_ | refine endI_norm ?_)
    | (with_reducible refine wp_regK fun K hK => ?_
       simp
       repeat' (with_reducible first | refine hK _ ?_ | (refine psel ?_ ?_ <;> (intro hc; (try rw [Decidable.not_not] at hc); first | (exfalso; omega) | (try simp [hc]))))
       all_goals (clear hK; clear K))
    | (with_reducible refine wp_condE ?_
       refine ⟨_, rfl, ?_, ?_⟩ <;> (intro hc; (try simp at hc); (all_goals first | (exfalso; omega) | skip))))
  refine wp_loopI (σ := List (XSlot) × List (XSlot) × List (XSlot)) (fun s => [(1, AV.bx 1 0, some (Rt.bx [.ro false (di x_Next), .ro k0 (.sl 2 (x_L.map XSlot.e))])), (2, AV.bx 2 0, some (Rt.bx [.ro false (di 0), .own (.sl 2 [])])), (3, AV.bx 3 0, some (Rt.bx [.ro false (di x_Next), .own (.sl 2 ((s.2.2).map XSlot.e))])), (4, AV.v false (di ((s.1.length : Nat) : Int)), none)]) (fun s => x_L = s.1 ++ s.2.1 ∧ s.2.2 ++ s.2.1 = x_L ∧ s.2.2.length ≤ s.1.length) (fun s => s.2.1.length) ([], x_L, []) (by simp) ⟨rfl, by first | rfl | simp, Nat.le_refl _⟩ ?_
  rintro ⟨pre, rest, a⟩ ⟨h1, h2, h3⟩
  simp only at h1 h2 h3
  subst h1
  simp only [List.length_append, List.length_cons] at h
  rcases rest with _ | ⟨d, rest⟩
  · unfold pl359_0
    try simp only [List.append_nil, List.append_nil] at h2
    repeat' (first
      | with_reducible (first | refine wp_seq ?_ | refine wp_blk ?_ | refine wp_skip ?_ | refine wp_exit ?_ | refine wp_ret ?_ | refine seqQ_norm ?_ | refine seqQ_ret ?_ | refine seqQ_exit ?_ | refine blkQ_norm ?_ | refine blkQ_ret ?_ | refine blkQ_exit ?_ | refine loopQ_norm ?_ | refine loopQ_exit ?_ | refine loopQ_ret ?_ | refine endQ_ret ?_ | refine endQ_norm ?_ | refine endE_ret ?_ | refine endE_norm ?_ | refine endI_ret ?_ | refine endI_norm ?_)
      | (with_reducible refine wp_regK fun K hK => ?_
         simp
         repeat' (with_reducible first | refine hK _ ?_ | (refine psel ?_ ?_ <;> (intro hc; (try rw [Decidable.not_not] at hc); first | (exfalso; omega) | (try simp [hc]))))
         all_goals (clear hK; clear K))
      | (with_reducible refine wp_condE ?_
         refine ⟨_, rfl, ?_, ?_⟩ <;> (intro hc; (try simp at hc); (all_goals first | (exfalso; omega) | skip))))
    all_goals first | (simp_all [pf359]; done) | (simp_all [pf359]; omega)
  · unfold pl359_0
    simp only [List.length_cons] at h
    try simp only [List.append_nil] at h2
    have hw : IntKind.wrap .i64 ((pre.length : Int) + 1) = (pre.length : Int) + 1 := wrap_i64 (by omega) (by omega)
    have hd := hs d (by simp)
    simp only [XSlot.sm, and_assoc] at hd
    obtain ⟨hsm_L, hsms_L⟩ := hd
    have hq1 : (a.length + 1) * 32 ≤ 70368744177664 := by omega
    have hq2 : d.L.length * 32 ≤ 70368744177664 := by omega
    repeat' (first
      | with_reducible (first | refine wp_seq ?_ | refine wp_blk ?_ | refine wp_skip ?_ | refine wp_exit ?_ | refine wp_ret ?_ | refine seqQ_norm ?_ | refine seqQ_ret ?_ | refine seqQ_exit ?_ | refine blkQ_norm ?_ | refine blkQ_ret ?_ | refine blkQ_exit ?_ | refine loopQ_norm ?_ | refine loopQ_exit ?_ | refine loopQ_ret ?_ | refine endQ_ret ?_ | refine endQ_norm ?_ | refine endE_ret ?_ | refine endE_norm ?_ | refine endI_ret ?_ | refine endI_norm ?_)
      | (with_reducible refine wp_regK fun K hK => ?_
         simp[hw, hsm_L, hsms_L, hq1, hq2]
         repeat' (with_reducible first | refine hK _ ?_ | (refine psel ?_ ?_ <;> (intro hc; (try rw [Decidable.not_not] at hc); first | (exfalso; omega) | (try simp [hc, hw, hsm_L, hsms_L, hq1, hq2]))))
         all_goals (clear hK; clear K))
      | (with_reducible refine wp_condE ?_
         refine ⟨_, rfl, ?_, ?_⟩ <;> (intro hc; (try simp at hc); (all_goals first | (exfalso; omega) | skip))))
    all_goals first | (refine ⟨(pre ++ [d], rest, a ++ [d]), ?_, ⟨?_, ?_, ?_⟩, ?_⟩; (focus (first | (simp; done) | (simp_all; done))); (focus (simp; done)); (focus (refine Eq.trans ?_ h2; clear h2; first | (simp [*]; done) | (simp_all; done)));  (focus (simp only [List.length_append, List.length_cons, List.length_nil]; omega)); (focus (simp; done))) | (simp_all [pf359]; done) | (exfalso; omega)

def stampB (n s : Int) : Bool := decide (n = -1 ∧ 0 < s)

def stampV (n s : Int) : Int := if n = -1 ∧ 0 < s then s else n

def cameB (n ts : Int) : Bool := decide (1 ≤ n ∧ n ≤ ts)

@[simp] theorem t54 (n s : Int) : Gw TT 54 [vi n, vi s] = some (.tup [vi (stampV n s), vb (stampB n s)], []) := by
  refine Gw_of (F := pf54) rfl rfl ?_
  show Wp _ pb54 _ _
  unfold pb54
  by_cases h1 : n = -1
  · by_cases h2 : 0 < s
    · repeat' (first
        | with_reducible (first | refine wp_seq ?_ | refine wp_blk ?_ | refine wp_skip ?_ | refine wp_exit ?_ | refine wp_ret ?_ | refine seqQ_norm ?_ | refine seqQ_ret ?_ | refine seqQ_exit ?_ | refine blkQ_norm ?_ | refine blkQ_ret ?_ | refine blkQ_exit ?_ | refine loopQ_norm ?_ | refine loopQ_exit ?_ | refine loopQ_ret ?_ | refine endQ_ret ?_ | refine endQ_norm ?_ | refine endE_ret ?_ | refine endE_norm ?_ | refine endI_ret ?_ | refine endI_norm ?_)
        | (with_reducible refine wp_regK fun K hK => ?_
           simp[h1, h2]
           repeat' (with_reducible first | refine hK _ ?_ | (refine psel ?_ ?_ <;> (intro hc; (try rw [Decidable.not_not] at hc); first | (exfalso; omega) | (try simp [hc, h1, h2]))))
           all_goals (clear hK; clear K))
        | (with_reducible refine wp_condE ?_
           refine ⟨_, rfl, ?_, ?_⟩ <;> (intro hc; (try simp at hc); (all_goals first | (exfalso; omega) | skip))))
      all_goals first | (simp [pf54, stampV, stampB, h1, h2]; done) | (exfalso; omega)
    · repeat' (first
        | with_reducible (first | refine wp_seq ?_ | refine wp_blk ?_ | refine wp_skip ?_ | refine wp_exit ?_ | refine wp_ret ?_ | refine seqQ_norm ?_ | refine seqQ_ret ?_ | refine seqQ_exit ?_ | refine blkQ_norm ?_ | refine blkQ_ret ?_ | refine blkQ_exit ?_ | refine loopQ_norm ?_ | refine loopQ_exit ?_ | refine loopQ_ret ?_ | refine endQ_ret ?_ | refine endQ_norm ?_ | refine endE_ret ?_ | refine endE_norm ?_ | refine endI_ret ?_ | refine endI_norm ?_)
        | (with_reducible refine wp_regK fun K hK => ?_
           simp[h1, h2]
           repeat' (with_reducible first | refine hK _ ?_ | (refine psel ?_ ?_ <;> (intro hc; (try rw [Decidable.not_not] at hc); first | (exfalso; omega) | (try simp [hc, h1, h2]))))
           all_goals (clear hK; clear K))
        | (with_reducible refine wp_condE ?_
           refine ⟨_, rfl, ?_, ?_⟩ <;> (intro hc; (try simp at hc); (all_goals first | (exfalso; omega) | skip))))
      all_goals first | (simp [pf54, stampV, stampB, h1, h2]; done) | (exfalso; omega)
  · repeat' (first
      | with_reducible (first | refine wp_seq ?_ | refine wp_blk ?_ | refine wp_skip ?_ | refine wp_exit ?_ | refine wp_ret ?_ | refine seqQ_norm ?_ | refine seqQ_ret ?_ | refine seqQ_exit ?_ | refine blkQ_norm ?_ | refine blkQ_ret ?_ | refine blkQ_exit ?_ | refine loopQ_norm ?_ | refine loopQ_exit ?_ | refine loopQ_ret ?_ | refine endQ_ret ?_ | refine endQ_norm ?_ | refine endE_ret ?_ | refine endE_norm ?_ | refine endI_ret ?_ | refine endI_norm ?_)
      | (with_reducible refine wp_regK fun K hK => ?_
         simp[h1]
         repeat' (with_reducible first | refine hK _ ?_ | (refine psel ?_ ?_ <;> (intro hc; (try rw [Decidable.not_not] at hc); first | (exfalso; omega) | (try simp [hc, h1]))))
         all_goals (clear hK; clear K))
      | (with_reducible refine wp_condE ?_
         refine ⟨_, rfl, ?_, ?_⟩ <;> (intro hc; (try simp at hc); (all_goals first | (exfalso; omega) | skip))))
    all_goals first | (simp [pf54, stampV, stampB, h1]; done) | (exfalso; omega)

@[simp] theorem t335 (n s : Int) : Gw TT 335 [vi n, vi s] = some (.tup [vi (stampV n s), vb (stampB n s)], []) := by
  refine Gw_of (F := pf335) rfl rfl ?_
  show Wp _ pb335 _ _
  unfold pb335
  by_cases h1 : n = -1
  · by_cases h2 : 0 < s
    · repeat' (first
        | with_reducible (first | refine wp_seq ?_ | refine wp_blk ?_ | refine wp_skip ?_ | refine wp_exit ?_ | refine wp_ret ?_ | refine seqQ_norm ?_ | refine seqQ_ret ?_ | refine seqQ_exit ?_ | refine blkQ_norm ?_ | refine blkQ_ret ?_ | refine blkQ_exit ?_ | refine loopQ_norm ?_ | refine loopQ_exit ?_ | refine loopQ_ret ?_ | refine endQ_ret ?_ | refine endQ_norm ?_ | refine endE_ret ?_ | refine endE_norm ?_ | refine endI_ret ?_ | refine endI_norm ?_)
        | (with_reducible refine wp_regK fun K hK => ?_
           simp[h1, h2]
           repeat' (with_reducible first | refine hK _ ?_ | (refine psel ?_ ?_ <;> (intro hc; (try rw [Decidable.not_not] at hc); first | (exfalso; omega) | (try simp [hc, h1, h2]))))
           all_goals (clear hK; clear K))
        | (with_reducible refine wp_condE ?_
           refine ⟨_, rfl, ?_, ?_⟩ <;> (intro hc; (try simp at hc); (all_goals first | (exfalso; omega) | skip))))
      all_goals first | (simp [pf335, stampV, stampB, h1, h2]; done) | (exfalso; omega)
    · repeat' (first
        | with_reducible (first | refine wp_seq ?_ | refine wp_blk ?_ | refine wp_skip ?_ | refine wp_exit ?_ | refine wp_ret ?_ | refine seqQ_norm ?_ | refine seqQ_ret ?_ | refine seqQ_exit ?_ | refine blkQ_norm ?_ | refine blkQ_ret ?_ | refine blkQ_exit ?_ | refine loopQ_norm ?_ | refine loopQ_exit ?_ | refine loopQ_ret ?_ | refine endQ_ret ?_ | refine endQ_norm ?_ | refine endE_ret ?_ | refine endE_norm ?_ | refine endI_ret ?_ | refine endI_norm ?_)
        | (with_reducible refine wp_regK fun K hK => ?_
           simp[h1, h2]
           repeat' (with_reducible first | refine hK _ ?_ | (refine psel ?_ ?_ <;> (intro hc; (try rw [Decidable.not_not] at hc); first | (exfalso; omega) | (try simp [hc, h1, h2]))))
           all_goals (clear hK; clear K))
        | (with_reducible refine wp_condE ?_
           refine ⟨_, rfl, ?_, ?_⟩ <;> (intro hc; (try simp at hc); (all_goals first | (exfalso; omega) | skip))))
      all_goals first | (simp [pf335, stampV, stampB, h1, h2]; done) | (exfalso; omega)
  · repeat' (first
      | with_reducible (first | refine wp_seq ?_ | refine wp_blk ?_ | refine wp_skip ?_ | refine wp_exit ?_ | refine wp_ret ?_ | refine seqQ_norm ?_ | refine seqQ_ret ?_ | refine seqQ_exit ?_ | refine blkQ_norm ?_ | refine blkQ_ret ?_ | refine blkQ_exit ?_ | refine loopQ_norm ?_ | refine loopQ_exit ?_ | refine loopQ_ret ?_ | refine endQ_ret ?_ | refine endQ_norm ?_ | refine endE_ret ?_ | refine endE_norm ?_ | refine endI_ret ?_ | refine endI_norm ?_)
      | (with_reducible refine wp_regK fun K hK => ?_
         simp[h1]
         repeat' (with_reducible first | refine hK _ ?_ | (refine psel ?_ ?_ <;> (intro hc; (try rw [Decidable.not_not] at hc); first | (exfalso; omega) | (try simp [hc, h1]))))
         all_goals (clear hK; clear K))
      | (with_reducible refine wp_condE ?_
         refine ⟨_, rfl, ?_, ?_⟩ <;> (intro hc; (try simp at hc); (all_goals first | (exfalso; omega) | skip))))
    all_goals first | (simp [pf335, stampV, stampB, h1]; done) | (exfalso; omega)

@[simp] theorem t7 (n ts : Int) : Gw TT 7 [vi n, vi ts] = some (vb (cameB n ts), []) := by
  refine Gw_of (F := pf7) rfl rfl ?_
  show Wp _ pb7 _ _
  unfold pb7
  repeat' (first
    | with_reducible (first | refine wp_seq ?_ | refine wp_blk ?_ | refine wp_skip ?_ | refine wp_exit ?_ | refine wp_ret ?_ | refine seqQ_norm ?_ | refine seqQ_ret ?_ | refine seqQ_exit ?_ | refine blkQ_norm ?_ | refine blkQ_ret ?_ | refine blkQ_exit ?_ | refine loopQ_norm ?_ | refine loopQ_exit ?_ | refine loopQ_ret ?_ | refine endQ_ret ?_ | refine endQ_norm ?_ | refine endE_ret ?_ | refine endE_norm ?_ | refine endI_ret ?_ | refine endI_norm ?_)
    | (with_reducible refine wp_regK fun K hK => ?_
       simp
       repeat' (with_reducible first | refine hK _ ?_ | (refine psel ?_ ?_ <;> (intro hc; (try rw [Decidable.not_not] at hc); first | (exfalso; omega) | (try simp [hc]))))
       all_goals (clear hK; clear K))
    | (with_reducible refine wp_condE ?_
       refine ⟨_, rfl, ?_, ?_⟩ <;> (intro hc; (try simp at hc); (all_goals first | (exfalso; omega) | skip))))
  all_goals first | (simp_all [pf7, cameB]; done) | (simp [pf7, cameB]; omega)

@[simp] theorem t263 (n ts : Int) : Gw TT 263 [vi n, vi ts] = some (vb (cameB n ts), []) := by
  refine Gw_of (F := pf263) rfl rfl ?_
  show Wp _ pb263 _ _
  unfold pb263
  repeat' (first
    | with_reducible (first | refine wp_seq ?_ | refine wp_blk ?_ | refine wp_skip ?_ | refine wp_exit ?_ | refine wp_ret ?_ | refine seqQ_norm ?_ | refine seqQ_ret ?_ | refine seqQ_exit ?_ | refine blkQ_norm ?_ | refine blkQ_ret ?_ | refine blkQ_exit ?_ | refine loopQ_norm ?_ | refine loopQ_exit ?_ | refine loopQ_ret ?_ | refine endQ_ret ?_ | refine endQ_norm ?_ | refine endE_ret ?_ | refine endE_norm ?_ | refine endI_ret ?_ | refine endI_norm ?_)
    | (with_reducible refine wp_regK fun K hK => ?_
       simp
       repeat' (with_reducible first | refine hK _ ?_ | (refine psel ?_ ?_ <;> (intro hc; (try rw [Decidable.not_not] at hc); first | (exfalso; omega) | (try simp [hc]))))
       all_goals (clear hK; clear K))
    | (with_reducible refine wp_condE ?_
       refine ⟨_, rfl, ?_, ?_⟩ <;> (intro hc; (try simp at hc); (all_goals first | (exfalso; omega) | skip))))
  all_goals first | (simp_all [pf263, cameB]; done) | (simp [pf263, cameB]; omega)

def resN (n : Int) (l : List XSlot) : Int := if 0 ≤ n ∧ n < (l.length : Int) then n + 1 else n

def resI (n : Int) (l : List XSlot) : Int := if 0 ≤ n ∧ n < (l.length : Int) then n else -1

@[simp] theorem t323 (k0 : Bool) (x_Next : Int) (x_L : List XSlot) (h : x_L.length ≤ 1048576) (hs : XSlot.sms x_L) : Gw TT 323 [.st [.ro false (di x_Next), .ro k0 (.sl 2 (x_L.map XSlot.e))]] = some (.tup [.st [.ro false (di (resN x_Next x_L)), .own (.sl 2 (x_L.map XSlot.e))], vi (resI x_Next x_L)], []) := by
  refine Gw_of (F := pf323) rfl rfl ?_
  show Wp _ pb323 _ _
  unfold pb323
  have hw : IntKind.wrap .i64 ((x_L.length : Int) - 1) = (x_L.length : Int) - 1 := wrap_i64 (by omega) (by omega)
  by_cases hb : 0 ≤ x_Next ∧ x_Next < (x_L.length : Int)
  · have hw2 : IntKind.wrap .i64 (x_Next + 1) = x_Next + 1 := wrap_i64 (by omega) (by omega)
    repeat' (first
      | with_reducible (first | refine wp_seq ?_ | refine wp_blk ?_ | refine wp_skip ?_ | refine wp_exit ?_ | refine wp_ret ?_ | refine seqQ_norm ?_ | refine seqQ_ret ?_ | refine seqQ_exit ?_ | refine blkQ_norm ?_ | refine blkQ_ret ?_ | refine blkQ_exit ?_ | refine loopQ_norm ?_ | refine loopQ_exit ?_ | refine loopQ_ret ?_ | refine endQ_ret ?_ | refine endQ_norm ?_ | refine endE_ret ?_ | refine endE_norm ?_ | refine endI_ret ?_ | refine endI_norm ?_)
      | (with_reducible refine wp_regK fun K hK => ?_
         simp[h, hs, hw, hw2]
         repeat' (with_reducible first | refine hK _ ?_ | (refine psel ?_ ?_ <;> (intro hc; (try rw [Decidable.not_not] at hc); first | (exfalso; omega) | (try simp [hc, h, hs, hw, hw2]))))
         all_goals (clear hK; clear K))
      | (with_reducible refine wp_condE ?_
         refine ⟨_, rfl, ?_, ?_⟩ <;> (intro hc; (try simp at hc); (all_goals first | (exfalso; omega) | skip))))
    all_goals first | (simp [pf323, resN, resI, hb]; done) | (exfalso; omega)
  · repeat' (first
      | with_reducible (first | refine wp_seq ?_ | refine wp_blk ?_ | refine wp_skip ?_ | refine wp_exit ?_ | refine wp_ret ?_ | refine seqQ_norm ?_ | refine seqQ_ret ?_ | refine seqQ_exit ?_ | refine blkQ_norm ?_ | refine blkQ_ret ?_ | refine blkQ_exit ?_ | refine loopQ_norm ?_ | refine loopQ_exit ?_ | refine loopQ_ret ?_ | refine endQ_ret ?_ | refine endQ_norm ?_ | refine endE_ret ?_ | refine endE_norm ?_ | refine endI_ret ?_ | refine endI_norm ?_)
      | (with_reducible refine wp_regK fun K hK => ?_
         simp[h, hs, hw]
         repeat' (with_reducible first | refine hK _ ?_ | (refine psel ?_ ?_ <;> (intro hc; (try rw [Decidable.not_not] at hc); first | (exfalso; omega) | (try simp [hc, h, hs, hw]))))
         all_goals (clear hK; clear K))
      | (with_reducible refine wp_condE ?_
         refine ⟨_, rfl, ?_, ?_⟩ <;> (intro hc; (try simp at hc); (all_goals first | (exfalso; omega) | skip))))
    all_goals first | (simp [pf323, resN, resI, hb]; done) | (exfalso; omega)

def stSlotL (i s : Int) (l : List XSlot) : List XSlot := match l[i.toNat]? with
  | some x => if 0 ≤ i then l.set i.toNat ⟨stampV x.Ins s, x.L⟩ else l
  | none => l

def stSlotB (i s : Int) (l : List XSlot) : Bool := match l[i.toNat]? with
  | some x => if 0 ≤ i then stampB x.Ins s else false
  | none => false

theorem stSlotL_len (i s : Int) (l : List XSlot) : (stSlotL i s l).length = l.length := by
  unfold stSlotL; split
  · split <;> simp
  · rfl

theorem stSlotL_sms (i s : Int) (l : List XSlot) (h : XSlot.sms l) : XSlot.sms (stSlotL i s l) := by
  unfold stSlotL; split
  · rename_i x hx
    split
    · intro y hy
      rcases List.mem_or_eq_of_mem_set hy with hy | rfl
      · exact h y hy
      · have := h x (List.mem_of_getElem? hx)
        simpa [XSlot.sm] using this
    · exact h
  · exact h

@[simp] theorem t55 (k0 : Bool) (x_Next : Int) (x_L : List XSlot) (i s : Int) (h : x_L.length ≤ 1048576) (hs : XSlot.sms x_L) : Gw TT 55 [.st [.ro false (di x_Next), .ro k0 (.sl 2 (x_L.map XSlot.e))], vi i, vi s] = some (.tup [.st [.ro false (di x_Next), .own (.sl 2 ((stSlotL i s x_L).map XSlot.e))], vb (stSlotB i s x_L)], []) := by
  refine Gw_of (F := pf55) rfl rfl ?_
  show Wp _ pb55 _ _
  unfold pb55
  have hw : IntKind.wrap .i64 ((x_L.length : Int) - 1) = (x_L.length : Int) - 1 := wrap_i64 (by omega) (by omega)
  by_cases hb : 0 ≤ i ∧ i < (x_L.length : Int)
  · obtain ⟨hb0, hb1⟩ := hb
    obtain ⟨x, hx⟩ : ∃ x, x_L[i.toNat]? = some x := ⟨_, List.getElem?_eq_getElem (by omega)⟩
    obtain ⟨hlt, he⟩ := List.getElem?_eq_some_iff.1 hx
    repeat' (first
      | with_reducible (first | refine wp_seq ?_ | refine wp_blk ?_ | refine wp_skip ?_ | refine wp_exit ?_ | refine wp_ret ?_ | refine seqQ_norm ?_ | refine seqQ_ret ?_ | refine seqQ_exit ?_ | refine blkQ_norm ?_ | refine blkQ_ret ?_ | refine blkQ_exit ?_ | refine loopQ_norm ?_ | refine loopQ_exit ?_ | refine loopQ_ret ?_ | refine endQ_ret ?_ | refine endQ_norm ?_ | refine endE_ret ?_ | refine endE_norm ?_ | refine endI_ret ?_ | refine endI_norm ?_)
      | (with_reducible refine wp_regK fun K hK => ?_
         simp[h, hs, hw, hb0, hb1, hlt, hx, he]
         repeat' (with_reducible first | refine hK _ ?_ | (refine psel ?_ ?_ <;> (intro hc; (try rw [Decidable.not_not] at hc); first | (exfalso; omega) | (try simp [hc, h, hs, hw, hb0, hb1, hlt, hx, he]))))
         all_goals (clear hK; clear K))
      | (with_reducible refine wp_condE ?_
         refine ⟨_, rfl, ?_, ?_⟩ <;> (intro hc; (try simp at hc); (all_goals first | (exfalso; omega) | skip))))
    all_goals first | (simp [pf55, stSlotL, stSlotB, hx, hb0, he]; done) | (exfalso; omega)
  · have hf : stSlotL i s x_L = x_L := by
      unfold stSlotL; split
      · rename_i y hy
        have := (List.getElem?_eq_some_iff.1 hy).1
        rw [if_neg (by omega)]
      · rfl
    have hg : stSlotB i s x_L = false := by
      unfold stSlotB; split
      · rename_i y hy
        have := (List.getElem?_eq_some_iff.1 hy).1
        rw [if_neg (by omega)]
      · rfl
    repeat' (first
      | with_reducible (first | refine wp_seq ?_ | refine wp_blk ?_ | refine wp_skip ?_ | refine wp_exit ?_ | refine wp_ret ?_ | refine seqQ_norm ?_ | refine seqQ_ret ?_ | refine seqQ_exit ?_ | refine blkQ_norm ?_ | refine blkQ_ret ?_ | refine blkQ_exit ?_ | refine loopQ_norm ?_ | refine loopQ_exit ?_ | refine loopQ_ret ?_ | refine endQ_ret ?_ | refine endQ_norm ?_ | refine endE_ret ?_ | refine endE_norm ?_ | refine endI_ret ?_ | refine endI_norm ?_)
      | (with_reducible refine wp_regK fun K hK => ?_
         simp[h, hs, hw]
         repeat' (with_reducible first | refine hK _ ?_ | (refine psel ?_ ?_ <;> (intro hc; (try rw [Decidable.not_not] at hc); first | (exfalso; omega) | (try simp [hc, h, hs, hw]))))
         all_goals (clear hK; clear K))
      | (with_reducible refine wp_condE ?_
         refine ⟨_, rfl, ?_, ?_⟩ <;> (intro hc; (try simp at hc); (all_goals first | (exfalso; omega) | skip))))
    all_goals first | (simp [pf55, hf, hg]; done) | (exfalso; omega)

@[simp] theorem t336 (k0 : Bool) (x_Next : Int) (x_L : List XSlot) (i s : Int) (h : x_L.length ≤ 1048576) (hs : XSlot.sms x_L) : Gw TT 336 [.st [.ro false (di x_Next), .ro k0 (.sl 2 (x_L.map XSlot.e))], vi i, vi s] = some (.tup [.st [.ro false (di x_Next), .own (.sl 2 ((stSlotL i s x_L).map XSlot.e))], vb (stSlotB i s x_L)], []) := by
  refine Gw_of (F := pf336) rfl rfl ?_
  show Wp _ pb336 _ _
  unfold pb336
  have hw : IntKind.wrap .i64 ((x_L.length : Int) - 1) = (x_L.length : Int) - 1 := wrap_i64 (by omega) (by omega)
  by_cases hb : 0 ≤ i ∧ i < (x_L.length : Int)
  · obtain ⟨hb0, hb1⟩ := hb
    obtain ⟨x, hx⟩ : ∃ x, x_L[i.toNat]? = some x := ⟨_, List.getElem?_eq_getElem (by omega)⟩
    obtain ⟨hlt, he⟩ := List.getElem?_eq_some_iff.1 hx
    repeat' (first
      | with_reducible (first | refine wp_seq ?_ | refine wp_blk ?_ | refine wp_skip ?_ | refine wp_exit ?_ | refine wp_ret ?_ | refine seqQ_norm ?_ | refine seqQ_ret ?_ | refine seqQ_exit ?_ | refine blkQ_norm ?_ | refine blkQ_ret ?_ | refine blkQ_exit ?_ | refine loopQ_norm ?_ | refine loopQ_exit ?_ | refine loopQ_ret ?_ | refine endQ_ret ?_ | refine endQ_norm ?_ | refine endE_ret ?_ | refine endE_norm ?_ | refine endI_ret ?_ | refine endI_norm ?_)
      | (with_reducible refine wp_regK fun K hK => ?_
         simp[h, hs, hw, hb0, hb1, hlt, hx, he]
         repeat' (with_reducible first | refine hK _ ?_ | (refine psel ?_ ?_ <;> (intro hc; (try rw [Decidable.not_not] at hc); first | (exfalso; omega) | (try simp [hc, h, hs, hw, hb0, hb1, hlt, hx, he]))))
         all_goals (clear hK; clear K))
      | (with_reducible refine wp_condE ?_
         refine ⟨_, rfl, ?_, ?_⟩ <;> (intro hc; (try simp at hc); (all_goals first | (exfalso; omega) | skip))))
    all_goals first | (simp [pf336, stSlotL, stSlotB, hx, hb0, he]; done) | (exfalso; omega)
  · have hf : stSlotL i s x_L = x_L := by
      unfold stSlotL; split
      · rename_i y hy
        have := (List.getElem?_eq_some_iff.1 hy).1
        rw [if_neg (by omega)]
      · rfl
    have hg : stSlotB i s x_L = false := by
      unfold stSlotB; split
      · rename_i y hy
        have := (List.getElem?_eq_some_iff.1 hy).1
        rw [if_neg (by omega)]
      · rfl
    repeat' (first
      | with_reducible (first | refine wp_seq ?_ | refine wp_blk ?_ | refine wp_skip ?_ | refine wp_exit ?_ | refine wp_ret ?_ | refine seqQ_norm ?_ | refine seqQ_ret ?_ | refine seqQ_exit ?_ | refine blkQ_norm ?_ | refine blkQ_ret ?_ | refine blkQ_exit ?_ | refine loopQ_norm ?_ | refine loopQ_exit ?_ | refine loopQ_ret ?_ | refine endQ_ret ?_ | refine endQ_norm ?_ | refine endE_ret ?_ | refine endE_norm ?_ | refine endI_ret ?_ | refine endI_norm ?_)
      | (with_reducible refine wp_regK fun K hK => ?_
         simp[h, hs, hw]
         repeat' (with_reducible first | refine hK _ ?_ | (refine psel ?_ ?_ <;> (intro hc; (try rw [Decidable.not_not] at hc); first | (exfalso; omega) | (try simp [hc, h, hs, hw]))))
         all_goals (clear hK; clear K))
      | (with_reducible refine wp_condE ?_
         refine ⟨_, rfl, ?_, ?_⟩ <;> (intro hc; (try simp at hc); (all_goals first | (exfalso; omega) | skip))))
    all_goals first | (simp [pf336, hf, hg]; done) | (exfalso; omega)

def rowsOfF (first ts : Int) : Int → List XSlot → List XRow
  | _, [] => []
  | i, d :: l => if cameB d.Ins ts = true then ⟨IntKind.wrap .i64 (first + i), d.L⟩ :: rowsOfF first ts (i + 1) l else rowsOfF first ts (i + 1) l

theorem rowsOfF_len (first ts : Int) : ∀ (l : List XSlot) (i : Int), (rowsOfF first ts i l).length ≤ l.length
  | [], i => by simp [rowsOfF]
  | d :: l, i => by
    have := rowsOfF_len first ts l (i + 1)
    simp only [rowsOfF]
    split <;> simp only [List.length_cons] <;> omega

theorem rowsOfF_sms (first ts : Int) : ∀ (l : List XSlot) (i : Int), XSlot.sms l → XRow.sms (rowsOfF first ts i l)
  | [], i, h => by intro y hy; simp [rowsOfF] at hy
  | d :: l, i, h => by
    have h1 := rowsOfF_sms first ts l (i + 1) fun y hy => h y (List.mem_cons_of_mem _ hy)
    have h2 := h d (by simp)
    simp only [rowsOfF]
    split
    · intro y hy
      rcases List.mem_cons.1 hy with rfl | hy
      · simpa [XSlot.sm, XRow.sm] using h2
      · exact h1 y hy
    · exact h1

@[simp] theorem t44 (k0 : Bool) (x_Next : Int) (x_L : List XSlot) (first ts : Int) (h : x_L.length ≤ 1048576) (hs : XSlot.sms x_L) : Gw TT 44 [.st [.ro false (di x_Next), .ro k0 (.sl 2 (x_L.map XSlot.e))], vi first, vi ts] = some (.one (.own (.sl 2 ((rowsOfF first ts 0 x_L).map XRow.e))), []) := by
  refine Gw_of (F := pf44) rfl rfl ?_
  show Wp _ pb44 _ _
  unfold pb44
  repeat' (first
    | with_reducible (first | refine wp_seq ?_ | refine wp_blk ?_ | refine wp_skip ?_ | refine wp_exit ?_ | refine wp_ret ?_ | refine seqQ_norm ?_ | refine seqQ_ret ?_ | refine seqQ_exit ?_ | refine blkQ_norm ?_ | refine blkQ_ret ?_ | refine blkQ_exit ?_ | refine loopQ_norm ?_ | refine loopQ_exit ?_ | refine loopQ_ret ?_ | refine endQ_ret ?_ | refine endQ_norm ?_ | refine endE_ret ?_ | refine endE_norm ?_ | refine endI_ret ?_ | refine endI_norm ?_)
    | (with_reducible refine wp_regK fun K hK => ?_
       simp
       repeat' (with_reducible first | refine hK _ ?_ | (refine psel ?_ ?_ <;> (intro hc; (try rw [Decidable.not_not] at hc); first | (exfalso; omega) | (try simp [hc]))))
       all_goals (clear hK; clear K))
    | (with_reducible refine wp_condE ?_
       refine ⟨_, rfl, ?_, ?_⟩ <;> (intro hc; (try simp at hc); (all_goals first | (exfalso; omega) | skip))))
  refine wp_loopI (σ := List (XSlot) × List (XSlot) × List (XRow)) (fun s => [(1, AV.v false (di first), none), (2, AV.v false (di ts), none), (3, AV.bx 3 0, some (Rt.bx [.ro false (di x_Next), .ro k0 (.sl 2 (x_L.map XSlot.e))])), (7, AV.pl 7 0 [], some (Rt.vir [C.own (D.sl 2 ((s.2.2).map XRow.e))])), (12, AV.v k0 (D.sl 2 (x_L.map XSlot.e)), none), (13, AV.v false (di (x_L.length : Nat)), none), (14, AV.v false (di ((s.1.length : Nat) : Int)), none)]) (fun s => x_L = s.1 ++ s.2.1 ∧ s.2.2 ++ rowsOfF first ts ((s.1.length : Nat) : Int) s.2.1 = rowsOfF first ts (0 : Int) x_L ∧ s.2.2.length ≤ s.1.length) (fun s => s.2.1.length) ([], x_L, []) (by simp) ⟨rfl, by first | rfl | simp, Nat.le_refl _⟩ ?_
  rintro ⟨pre, rest, a⟩ ⟨h1, h2, h3⟩
  simp only at h1 h2 h3
  subst h1
  simp only [List.length_append, List.length_cons] at h
  rcases rest with _ | ⟨d, rest⟩
  · unfold pl44_0
    try simp only [rowsOfF, List.append_nil] at h2
    repeat' (first
      | with_reducible (first | refine wp_seq ?_ | refine wp_blk ?_ | refine wp_skip ?_ | refine wp_exit ?_ | refine wp_ret ?_ | refine seqQ_norm ?_ | refine seqQ_ret ?_ | refine seqQ_exit ?_ | refine blkQ_norm ?_ | refine blkQ_ret ?_ | refine blkQ_exit ?_ | refine loopQ_norm ?_ | refine loopQ_exit ?_ | refine loopQ_ret ?_ | refine endQ_ret ?_ | refine endQ_norm ?_ | refine endE_ret ?_ | refine endE_norm ?_ | refine endI_ret ?_ | refine endI_norm ?_)
      | (with_reducible refine wp_regK fun K hK => ?_
         simp
         repeat' (with_reducible first | refine hK _ ?_ | (refine psel ?_ ?_ <;> (intro hc; (try rw [Decidable.not_not] at hc); first | (exfalso; omega) | (try simp [hc]))))
         all_goals (clear hK; clear K))
      | (with_reducible refine wp_condE ?_
         refine ⟨_, rfl, ?_, ?_⟩ <;> (intro hc; (try simp at hc); (all_goals first | (exfalso; omega) | skip))))
    all_goals first | (simp_all [pf44]; done) | (simp_all [pf44]; omega)
  · unfold pl44_0
    simp only [List.length_cons] at h
    try simp only [rowsOfF] at h2
    have hw : IntKind.wrap .i64 ((pre.length : Int) + 1) = (pre.length : Int) + 1 := wrap_i64 (by omega) (by omega)
    have hd := hs d (by simp)
    simp only [XSlot.sm, and_assoc] at hd
    obtain ⟨hsm_L, hsms_L⟩ := hd
    have hq1 : (a.length + 1) * 32 ≤ 70368744177664 := by omega
    have hq2 : d.L.length * 32 ≤ 70368744177664 := by omega
    repeat' (first
      | with_reducible (first | refine wp_seq ?_ | refine wp_blk ?_ | refine wp_skip ?_ | refine wp_exit ?_ | refine wp_ret ?_ | refine seqQ_norm ?_ | refine seqQ_ret ?_ | refine seqQ_exit ?_ | refine blkQ_norm ?_ | refine blkQ_ret ?_ | refine blkQ_exit ?_ | refine loopQ_norm ?_ | refine loopQ_exit ?_ | refine loopQ_ret ?_ | refine endQ_ret ?_ | refine endQ_norm ?_ | refine endE_ret ?_ | refine endE_norm ?_ | refine endI_ret ?_ | refine endI_norm ?_)
      | (with_reducible refine wp_regK fun K hK => ?_
         simp[hw, hsm_L, hsms_L, hq1, hq2]
         repeat' (with_reducible first | refine hK _ ?_ | (refine psel ?_ ?_ <;> (intro hc; (try rw [Decidable.not_not] at hc); first | (exfalso; omega) | (try simp [hc, hw, hsm_L, hsms_L, hq1, hq2]))))
         all_goals (clear hK; clear K))
      | (with_reducible refine wp_condE ?_
         refine ⟨_, rfl, ?_, ?_⟩ <;> (intro hc; (try simp at hc); (all_goals first | (exfalso; omega) | skip))))
    all_goals first | (refine ⟨(pre ++ [d], rest, a ++ [⟨IntKind.wrap .i64 (first + (pre.length : Int)), d.L⟩]), ?_, ⟨?_, ?_, ?_⟩, ?_⟩; (focus (first | (simp; done) | (simp_all; done))); (focus (simp; done)); (focus (refine Eq.trans ?_ h2; clear h2; first | (simp [*]; done) | (simp_all; done)));  (focus (simp only [List.length_append, List.length_cons, List.length_nil]; omega)); (focus (simp; done))) | (refine ⟨(pre ++ [d], rest, a), ?_, ⟨?_, ?_, ?_⟩, ?_⟩; (focus (first | (simp; done) | (simp_all; done))); (focus (simp; done)); (focus (refine Eq.trans ?_ h2; clear h2; first | (simp [*]; done) | (simp_all; done)));  (focus (simp only [List.length_append, List.length_cons, List.length_nil]; omega)); (focus (simp; done))) | (simp_all [pf44]; done) | (exfalso; omega)

@[simp] theorem t325 (k0 : Bool) (x_Next : Int) (x_L : List XSlot) (first ts : Int) (h : x_L.length ≤ 1048576) (hs : XSlot.sms x_L) : Gw TT 325 [.st [.ro false (di x_Next), .ro k0 (.sl 2 (x_L.map XSlot.e))], vi first, vi ts] = some (.one (.own (.sl 2 ((rowsOfF first ts 0 x_L).map XRow.e))), []) := by
  refine Gw_of (F := pf325) rfl rfl ?_
  show Wp _ pb325 _ _
  unfold pb325
  repeat' (first
    | with_reducible (first | refine wp_seq ?_ | refine wp_blk ?_ | refine wp_skip ?_ | refine wp_exit ?_ | refine wp_ret ?_ | refine seqQ_norm ?_ | refine seqQ_ret ?_ | refine seqQ_exit ?_ | refine blkQ_norm ?_ | refine blkQ_ret ?_ | refine blkQ_exit ?_ | refine loopQ_norm ?_ | refine loopQ_exit ?_ | refine loopQ_ret ?_ | refine endQ_ret ?_ | refine endQ_norm ?_ | refine endE_ret ?_ | refine endE_norm ?_ | refine endI_ret ?_ | refine endI_norm ?_)
    | (with_reducible refine wp_regK fun K hK => ?_
       simp
       repeat' (with_reducible first | refine hK _ ?_ | (refine psel ?_ ?_ <;> (intro hc; (try rw [Decidable.not_not] at hc); first | (exfalso; omega) | (try simp [hc]))))
       all_goals (clear hK; clear K))
    | (with_reducible refine wp_condE ?_
       refine ⟨_, rfl, ?_, ?_⟩ <;> (intro hc; (try simp at hc); (all_goals first | (exfalso; omega) | skip))))
  refine wp_loopI (σ := List (XSlot) × List (XSlot) × List (XRow)) (fun s => [(1, AV.v false (di first), none), (2, AV.v false (di ts), none), (3, AV.bx 3 0, some (Rt.bx [.ro false (di x_Next), .ro k0 (.sl 2 (x_L.map XSlot.e))])), (7, AV.pl 7 0 [], some (Rt.vir [C.own (D.sl 2 ((s.2.2).map XRow.e))])), (8, AV.v false (di ((s.1.length : Nat) : Int)), none)]) (fun s => x_L = s.1 ++ s.2.1 ∧ s.2.2 ++ rowsOfF first ts ((s.1.length : Nat) : Int) s.2.1 = rowsOfF first ts (0 : Int) x_L ∧ s.2.2.length ≤ s.1.length) (fun s => s.2.1.length) ([], x_L, []) (by simp) ⟨rfl, by first | rfl | simp, Nat.le_refl _⟩ ?_
  rintro ⟨pre, rest, a⟩ ⟨h1, h2, h3⟩
  simp only at h1 h2 h3
  subst h1
  simp only [List.length_append, List.length_cons] at h
  rcases rest with _ | ⟨d, rest⟩
  · unfold pl325_0
    try simp only [rowsOfF, List.append_nil] at h2
    repeat' (first
      | with_reducible (first | refine wp_seq ?_ | refine wp_blk ?_ | refine wp_skip ?_ | refine wp_exit ?_ | refine wp_ret ?_ | refine seqQ_norm ?_ | refine seqQ_ret ?_ | refine seqQ_exit ?_ | refine blkQ_norm ?_ | refine blkQ_ret ?_ | refine blkQ_exit ?_ | refine loopQ_norm ?_ | refine loopQ_exit ?_ | refine loopQ_ret ?_ | refine endQ_ret ?_ | refine endQ_norm ?_ | refine endE_ret ?_ | refine endE_norm ?_ | refine endI_ret ?_ | refine endI_norm ?_)
      | (with_reducible refine wp_regK fun K hK => ?_
         simp
         repeat' (with_reducible first | refine hK _ ?_ | (refine psel ?_ ?_ <;> (intro hc; (try rw [Decidable.not_not] at hc); first | (exfalso; omega) | (try simp [hc]))))
         all_goals (clear hK; clear K))
      | (with_reducible refine wp_condE ?_
         refine ⟨_, rfl, ?_, ?_⟩ <;> (intro hc; (try simp at hc); (all_goals first | (exfalso; omega) | skip))))
    all_goals first | (simp_all [pf325]; done) | (simp_all [pf325]; omega)
  · unfold pl325_0
    simp only [List.length_cons] at h
    try simp only [rowsOfF] at h2
    have hw : IntKind.wrap .i64 ((pre.length : Int) + 1) = (pre.length : Int) + 1 := wrap_i64 (by omega) (by omega)
    have hd := hs d (by simp)
    simp only [XSlot.sm, and_assoc] at hd
    obtain ⟨hsm_L, hsms_L⟩ := hd
    have hq1 : (a.length + 1) * 32 ≤ 70368744177664 := by omega
    have hq2 : d.L.length * 32 ≤ 70368744177664 := by omega
    repeat' (first
      | with_reducible (first | refine wp_seq ?_ | refine wp_blk ?_ | refine wp_skip ?_ | refine wp_exit ?_ | refine wp_ret ?_ | refine seqQ_norm ?_ | refine seqQ_ret ?_ | refine seqQ_exit ?_ | refine blkQ_norm ?_ | refine blkQ_ret ?_ | refine blkQ_exit ?_ | refine loopQ_norm ?_ | refine loopQ_exit ?_ | refine loopQ_ret ?_ | refine endQ_ret ?_ | refine endQ_norm ?_ | refine endE_ret ?_ | refine endE_norm ?_ | refine endI_ret ?_ | refine endI_norm ?_)
      | (with_reducible refine wp_regK fun K hK => ?_
         simp[hw, hsm_L, hsms_L, hq1, hq2]
         repeat' (with_reducible first | refine hK _ ?_ | (refine psel ?_ ?_ <;> (intro hc; (try rw [Decidable.not_not] at hc); first | (exfalso; omega) | (try simp [hc, hw, hsm_L, hsms_L, hq1, hq2]))))
         all_goals (clear hK; clear K))
      | (with_reducible refine wp_condE ?_
         refine ⟨_, rfl, ?_, ?_⟩ <;> (intro hc; (try simp at hc); (all_goals first | (exfalso; omega) | skip))))
    all_goals first | (refine ⟨(pre ++ [d], rest, a ++ [⟨IntKind.wrap .i64 (first + (pre.length : Int)), d.L⟩]), ?_, ⟨?_, ?_, ?_⟩, ?_⟩; (focus (first | (simp; done) | (simp_all; done))); (focus (simp; done)); (focus (refine Eq.trans ?_ h2; clear h2; first | (simp [*]; done) | (simp_all; done)));  (focus (simp only [List.length_append, List.length_cons, List.length_nil]; omega)); (focus (simp; done))) | (refine ⟨(pre ++ [d], rest, a), ?_, ⟨?_, ?_, ?_⟩, ?_⟩; (focus (first | (simp; done) | (simp_all; done))); (focus (simp; done)); (focus (refine Eq.trans ?_ h2; clear h2; first | (simp [*]; done) | (simp_all; done)));  (focus (simp only [List.length_append, List.length_cons, List.length_nil]; omega)); (focus (simp; done))) | (simp_all [pf325]; done) | (exfalso; omega)

structure XCur where
  b : List Int
  i : Nat
  h : Int
  hb : b.length ≤ 1048576

theorem and255 (x : Nat) : 0 ≤ IntKind.wrap .i64 ((x &&& 255 % 2 ^ IntKind.i64.bits : Nat) : Int) ∧ IntKind.wrap .i64 ((x &&& 255 % 2 ^ IntKind.i64.bits : Nat) : Int) ≤ 255 := by
  have h0 : 255 % 2 ^ IntKind.i64.bits = 255 := by decide
  rw [h0]
  have h : x &&& 255 ≤ 255 := Nat.and_le_right
  rw [wrap_i64 (by omega) (by omega)]
  omega

theorem d379_ex (k0 : Bool) (b : List Int) (hb : b.length ≤ 1048576) : ∃ h : Int, Gw TT 379 [.one (.ro k0 (.sl 1 (b.map eb)))] = some (.ptr [.ro k0 (.sl 1 (b.map eb)), .ro false (di 0), .ro false (di h)], []) := by
  suffices h0 : ∃ y, Gw TT 379 [.one (.ro k0 (.sl 1 (b.map eb)))] = some y ∧ ∃ h : Int, y = (.ptr [.ro k0 (.sl 1 (b.map eb)), .ro false (di 0), .ro false (di h)], []) by
    obtain ⟨y, h1, h, rfl⟩ := h0
    exact ⟨h, h1⟩
  refine Gw_ofE (F := pf379) rfl rfl ?_
  show Wp _ pb379 _ _
  unfold pb379
  repeat' (first
    | with_reducible (first | refine wp_seq ?_ | refine wp_blk ?_ | refine wp_skip ?_ | refine wp_exit ?_ | refine wp_ret ?_ | refine seqQ_norm ?_ | refine seqQ_ret ?_ | refine seqQ_exit ?_ | refine blkQ_norm ?_ | refine blkQ_ret ?_ | refine blkQ_exit ?_ | refine loopQ_norm ?_ | refine loopQ_exit ?_ | refine loopQ_ret ?_ | refine endQ_ret ?_ | refine endQ_norm ?_ | refine endE_ret ?_ | refine endE_norm ?_ | refine endI_ret ?_ | refine endI_norm ?_)
    | (with_reducible refine wp_regK fun K hK => ?_
       simp
       repeat' (with_reducible first | refine hK _ ?_ | (refine psel ?_ ?_ <;> (intro hc; (try rw [Decidable.not_not] at hc); first | (exfalso; omega) | (try simp [hc]))))
       all_goals (clear hK; clear K))
    | (with_reducible refine wp_condE ?_
       refine ⟨_, rfl, ?_, ?_⟩ <;> (intro hc; (try simp at hc); (all_goals first | (exfalso; omega) | skip))))
  refine wp_loopI (σ := List Int × List Int × Int) (fun s => [(0, AV.v k0 (D.sl 1 (b.map eb)), none), (3, AV.v false (di s.2.2), none), (4, AV.v false (di ((s.1.length : Nat) : Int)), none)]) (fun s => b = s.1 ++ s.2.1) (fun s => s.2.1.length) ([], b, IntKind.wrap .i64 (154242 + (b.length : Int))) (by simp) rfl ?_
  rintro ⟨pre, rest, a⟩ h1
  simp only at h1
  subst h1
  simp only [List.length_append, List.length_cons] at hb
  rcases rest with _ | ⟨d, rest⟩
  · unfold pl379_0
    repeat' (first
      | with_reducible (first | refine wp_seq ?_ | refine wp_blk ?_ | refine wp_skip ?_ | refine wp_exit ?_ | refine wp_ret ?_ | refine seqQ_norm ?_ | refine seqQ_ret ?_ | refine seqQ_exit ?_ | refine blkQ_norm ?_ | refine blkQ_ret ?_ | refine blkQ_exit ?_ | refine loopQ_norm ?_ | refine loopQ_exit ?_ | refine loopQ_ret ?_ | refine endQ_ret ?_ | refine endQ_norm ?_ | refine endE_ret ?_ | refine endE_norm ?_ | refine endI_ret ?_ | refine endI_norm ?_)
      | (with_reducible refine wp_regK fun K hK => ?_
         simp
         repeat' (with_reducible first | refine hK _ ?_ | (refine psel ?_ ?_ <;> (intro hc; (try rw [Decidable.not_not] at hc); first | (exfalso; omega) | (try simp [hc]))))
         all_goals (clear hK; clear K))
      | (with_reducible refine wp_condE ?_
         refine ⟨_, rfl, ?_, ?_⟩ <;> (intro hc; (try simp at hc); (all_goals first | (exfalso; omega) | skip))))
    all_goals exact ⟨_, by simp [pf379]; rfl, a, by simp⟩
  · unfold pl379_0
    simp only [List.length_cons] at hb
    have hw : IntKind.wrap .i64 ((pre.length : Int) + 1) = (pre.length : Int) + 1 := wrap_i64 (by omega) (by omega)
    repeat' (first
      | with_reducible (first | refine wp_seq ?_ | refine wp_blk ?_ | refine wp_skip ?_ | refine wp_exit ?_ | refine wp_ret ?_ | refine seqQ_norm ?_ | refine seqQ_ret ?_ | refine seqQ_exit ?_ | refine blkQ_norm ?_ | refine blkQ_ret ?_ | refine blkQ_exit ?_ | refine loopQ_norm ?_ | refine loopQ_exit ?_ | refine loopQ_ret ?_ | refine endQ_ret ?_ | refine endQ_norm ?_ | refine endE_ret ?_ | refine endE_norm ?_ | refine endI_ret ?_ | refine endI_norm ?_)
      | (with_reducible refine wp_regK fun K hK => ?_
         simp[hw]
         repeat' (with_reducible first | refine hK _ ?_ | (refine psel ?_ ?_ <;> (intro hc; (try rw [Decidable.not_not] at hc); first | (exfalso; omega) | (try simp [hc, hw]))))
         all_goals (clear hK; clear K))
      | (with_reducible refine wp_condE ?_
         refine ⟨_, rfl, ?_, ?_⟩ <;> (intro hc; (try simp at hc); (all_goals first | (exfalso; omega) | skip))))
    all_goals first | exact ⟨(pre ++ [d], rest, _), by simp; rfl, by simp, by simp⟩ | exact ⟨_, by simp [pf379]; rfl, a, by simp⟩

noncomputable def newC (b : List Int) (hb : b.length ≤ 1048576) : XCur := ⟨b, 0, Classical.choose (d379_ex false b hb), hb⟩

@[simp] theorem t379 (b : List Int) (hb : b.length ≤ 1048576) : Gw TT 379 [.one (.ro false (.sl 1 (b.map eb)))] = some (.ptr [.ro false (.sl 1 ((newC b hb).b.map eb)), .ro false (di ((newC b hb).i : Nat)), .ro false (di (newC b hb).h)], []) := Classical.choose_spec (d379_ex false b hb)

theorem d376_ex (c : XCur)  : ∃ r : (Int) × XCur, Gw TT 376 [.ptr [.ro false (.sl 1 (c.b.map eb)), .ro false (di (c.i : Nat)), .ro false (di c.h)]] = some (vi r.1, [(0, 0, .ro false (.sl 1 (r.2.b.map eb))), (0, 1, .ro false (di (r.2.i : Nat))), (0, 2, .ro false (di r.2.h))]) ∧ (0 ≤ r.1 ∧ r.1 ≤ 255) := by
  suffices h0 : ∃ y, Gw TT 376 [.ptr [.ro false (.sl 1 (c.b.map eb)), .ro false (di (c.i : Nat)), .ro false (di c.h)]] = some y ∧ ∃ r : (Int) × XCur, y = (vi r.1, [(0, 0, .ro false (.sl 1 (r.2.b.map eb))), (0, 1, .ro false (di (r.2.i : Nat))), (0, 2, .ro false (di r.2.h))]) ∧ (0 ≤ r.1 ∧ r.1 ≤ 255) by
    obtain ⟨y, h1, r, rfl, h2⟩ := h0
    exact ⟨r, h1, h2⟩
  refine Gw_ofE (F := pf376) rfl rfl ?_
  show Wp _ pb376 _ _
  unfold pb376
  obtain ⟨b, i, h, hb⟩ := c
  by_cases hi : i < b.length
  · have hw : IntKind.wrap .i64 ((i : Int) + 1) = (i : Int) + 1 := wrap_i64 (by omega) (by omega)
    repeat' (first
      | with_reducible (first | refine wp_seq ?_ | refine wp_blk ?_ | refine wp_skip ?_ | refine wp_exit ?_ | refine wp_ret ?_ | refine seqQ_norm ?_ | refine seqQ_ret ?_ | refine seqQ_exit ?_ | refine blkQ_norm ?_ | refine blkQ_ret ?_ | refine blkQ_exit ?_ | refine loopQ_norm ?_ | refine loopQ_exit ?_ | refine loopQ_ret ?_ | refine endQ_ret ?_ | refine endQ_norm ?_ | refine endE_ret ?_ | refine endE_norm ?_ | refine endI_ret ?_ | refine endI_norm ?_)
      | (with_reducible refine wp_regK fun K hK => ?_
         simp[hi, hw]
         repeat' (with_reducible first | refine hK _ ?_ | (refine psel ?_ ?_ <;> (intro hc; (try rw [Decidable.not_not] at hc); first | (exfalso; omega) | (try simp [hc, hi, hw]))))
         all_goals (clear hK; clear K))
      | (with_reducible refine wp_condE ?_
         refine ⟨_, rfl, ?_, ?_⟩ <;> (intro hc; (try simp at hc); (all_goals first | (exfalso; omega) | skip))))
    all_goals first | (exfalso; omega) | (refine ⟨_, by simp [pf376]; rfl, ?_⟩; exact ⟨(_, ⟨b, i + 1, _, hb⟩), rfl, and255 _⟩)
  · repeat' (first
      | with_reducible (first | refine wp_seq ?_ | refine wp_blk ?_ | refine wp_skip ?_ | refine wp_exit ?_ | refine wp_ret ?_ | refine seqQ_norm ?_ | refine seqQ_ret ?_ | refine seqQ_exit ?_ | refine blkQ_norm ?_ | refine blkQ_ret ?_ | refine blkQ_exit ?_ | refine loopQ_norm ?_ | refine loopQ_exit ?_ | refine loopQ_ret ?_ | refine endQ_ret ?_ | refine endQ_norm ?_ | refine endE_ret ?_ | refine endE_norm ?_ | refine endI_ret ?_ | refine endI_norm ?_)
      | (with_reducible refine wp_regK fun K hK => ?_
         simp[hi]
         repeat' (with_reducible first | refine hK _ ?_ | (refine psel ?_ ?_ <;> (intro hc; (try rw [Decidable.not_not] at hc); first | (exfalso; omega) | (try simp [hc, hi]))))
         all_goals (clear hK; clear K))
      | (with_reducible refine wp_condE ?_
         refine ⟨_, rfl, ?_, ?_⟩ <;> (intro hc; (try simp at hc); (all_goals first | (exfalso; omega) | skip))))
    all_goals first | (exfalso; omega) | (refine ⟨_, by simp [pf376]; rfl, ?_⟩; exact ⟨(_, ⟨b, i, _, hb⟩), rfl, and255 _⟩)

noncomputable def d376 (c : XCur)  : (Int) × XCur := Classical.choose (d376_ex c)

@[simp] theorem t376 (c : XCur)  : Gw TT 376 [.ptr [.ro false (.sl 1 (c.b.map eb)), .ro false (di (c.i : Nat)), .ro false (di c.h)]] = some (vi (d376 c).1, [(0, 0, .ro false (.sl 1 ((d376 c).2.b.map eb))), (0, 1, .ro false (di ((d376 c).2.i : Nat))), (0, 2, .ro false (di (d376 c).2.h))]) := (Classical.choose_spec (d376_ex c)).1

theorem p376 (c : XCur)  : 0 ≤ (d376 c).1 ∧ (d376 c).1 ≤ 255 := (Classical.choose_spec (d376_ex c)).2

theorem tmod_lt {x n : Int} (h0 : 0 ≤ x) (h : 0 < n) : 0 ≤ x.tmod n ∧ x.tmod n < n := by
  rw [Int.tmod_eq_emod_of_nonneg h0]
  exact ⟨Int.emod_nonneg _ (by omega), Int.emod_lt_of_pos _ h⟩

theorem d375_ex (c : XCur) (n : Int) : ∃ r : (Int) × XCur, Gw TT 375 [.ptr [.ro false (.sl 1 (c.b.map eb)), .ro false (di (c.i : Nat)), .ro false (di c.h)], vi n] = some (vi r.1, [(0, 0, .ro false (.sl 1 (r.2.b.map eb))), (0, 1, .ro false (di (r.2.i : Nat))), (0, 2, .ro false (di r.2.h))]) ∧ (0 ≤ r.1 ∧ (0 < n → r.1 < n) ∧ (n ≤ 0 → r.1 = 0)) := by
  suffices h0 : ∃ y, Gw TT 375 [.ptr [.ro false (.sl 1 (c.b.map eb)), .ro false (di (c.i : Nat)), .ro false (di c.h)], vi n] = some y ∧ ∃ r : (Int) × XCur, y = (vi r.1, [(0, 0, .ro false (.sl 1 (r.2.b.map eb))), (0, 1, .ro false (di (r.2.i : Nat))), (0, 2, .ro false (di r.2.h))]) ∧ (0 ≤ r.1 ∧ (0 < n → r.1 < n) ∧ (n ≤ 0 → r.1 = 0)) by
    obtain ⟨y, h1, r, rfl, h2⟩ := h0
    exact ⟨r, h1, h2⟩
  refine Gw_ofE (F := pf375) rfl rfl ?_
  show Wp _ pb375 _ _
  unfold pb375
  by_cases h0 : n ≤ 0
  · repeat' (first
      | with_reducible (first | refine wp_seq ?_ | refine wp_blk ?_ | refine wp_skip ?_ | refine wp_exit ?_ | refine wp_ret ?_ | refine seqQ_norm ?_ | refine seqQ_ret ?_ | refine seqQ_exit ?_ | refine blkQ_norm ?_ | refine blkQ_ret ?_ | refine blkQ_exit ?_ | refine loopQ_norm ?_ | refine loopQ_exit ?_ | refine loopQ_ret ?_ | refine endQ_ret ?_ | refine endQ_norm ?_ | refine endE_ret ?_ | refine endE_norm ?_ | refine endI_ret ?_ | refine endI_norm ?_)
      | (with_reducible refine wp_regK fun K hK => ?_
         simp[h0]
         repeat' (with_reducible first | refine hK _ ?_ | (refine psel ?_ ?_ <;> (intro hc; (try rw [Decidable.not_not] at hc); first | (exfalso; omega) | (try simp [hc, h0]))))
         all_goals (clear hK; clear K))
      | (with_reducible refine wp_condE ?_
         refine ⟨_, rfl, ?_, ?_⟩ <;> (intro hc; (try simp at hc); (all_goals first | (exfalso; omega) | skip))))
    all_goals first | (exfalso; omega) | (refine ⟨_, by simp [pf375]; rfl, ?_⟩; exact ⟨(0, c), rfl, by omega, by omega, fun _ => rfl⟩)
  · have hn : n ≠ 0 := by omega
    by_cases h1 : n ≤ 256
    · have q := p376 c
      have q2 := tmod_lt (n := n) q.1 (by omega)
      repeat' (first
        | with_reducible (first | refine wp_seq ?_ | refine wp_blk ?_ | refine wp_skip ?_ | refine wp_exit ?_ | refine wp_ret ?_ | refine seqQ_norm ?_ | refine seqQ_ret ?_ | refine seqQ_exit ?_ | refine blkQ_norm ?_ | refine blkQ_ret ?_ | refine blkQ_exit ?_ | refine loopQ_norm ?_ | refine loopQ_exit ?_ | refine loopQ_ret ?_ | refine endQ_ret ?_ | refine endQ_norm ?_ | refine endE_ret ?_ | refine endE_norm ?_ | refine endI_ret ?_ | refine endI_norm ?_)
        | (with_reducible refine wp_regK fun K hK => ?_
           simp[h0, h1, hn]
           repeat' (with_reducible first | refine hK _ ?_ | (refine psel ?_ ?_ <;> (intro hc; (try rw [Decidable.not_not] at hc); first | (exfalso; omega) | (try simp [hc, h0, h1, hn]))))
           all_goals (clear hK; clear K))
        | (with_reducible refine wp_condE ?_
           refine ⟨_, rfl, ?_, ?_⟩ <;> (intro hc; (try simp at hc); (all_goals first | (exfalso; omega) | skip))))
      all_goals first | (exfalso; omega) | (refine ⟨_, by simp [pf375]; rfl, ?_⟩; exact ⟨(_, (d376 c).2), rfl, q2.1, fun _ => q2.2, fun h => absurd h h0⟩)
    · have q1 := p376 c
      have q2 := p376 (d376 c).2
      have q3 := p376 (d376 (d376 c).2).2
      have w1 : IntKind.wrap .i64 ((d376 c).1 * 65536) = (d376 c).1 * 65536 := wrap_i64 (by omega) (by omega)
      have w2 : IntKind.wrap .i64 ((d376 (d376 c).2).1 * 256) = (d376 (d376 c).2).1 * 256 := wrap_i64 (by omega) (by omega)
      have w3 : IntKind.wrap .i64 ((d376 c).1 * 65536 + (d376 (d376 c).2).1 * 256) = (d376 c).1 * 65536 + (d376 (d376 c).2).1 * 256 := wrap_i64 (by omega) (by omega)
      have w4 : IntKind.wrap .i64 ((d376 c).1 * 65536 + (d376 (d376 c).2).1 * 256 + (d376 (d376 (d376 c).2).2).1) = (d376 c).1 * 65536 + (d376 (d376 c).2).1 * 256 + (d376 (d376 (d376 c).2).2).1 := wrap_i64 (by omega) (by omega)
      have q4 := tmod_lt (x := (d376 c).1 * 65536 + (d376 (d376 c).2).1 * 256 + (d376 (d376 (d376 c).2).2).1) (n := n) (by omega) (by omega)
      repeat' (first
        | with_reducible (first | refine wp_seq ?_ | refine wp_blk ?_ | refine wp_skip ?_ | refine wp_exit ?_ | refine wp_ret ?_ | refine seqQ_norm ?_ | refine seqQ_ret ?_ | refine seqQ_exit ?_ | refine blkQ_norm ?_ | refine blkQ_ret ?_ | refine blkQ_exit ?_ | refine loopQ_norm ?_ | refine loopQ_exit ?_ | refine loopQ_ret ?_ | refine endQ_ret ?_ | refine endQ_norm ?_ | refine endE_ret ?_ | refine endE_norm ?_ | refine endI_ret ?_ | refine endI_norm ?_)
        | (with_reducible refine wp_regK fun K hK => ?_
           simp[h0, h1, hn, w1, w2, w3, w4]
           repeat' (with_reducible first | refine hK _ ?_ | (refine psel ?_ ?_ <;> (intro hc; (try rw [Decidable.not_not] at hc); first | (exfalso; omega) | (try simp [hc, h0, h1, hn, w1, w2, w3, w4]))))
           all_goals (clear hK; clear K))
        | (with_reducible refine wp_condE ?_
           refine ⟨_, rfl, ?_, ?_⟩ <;> (intro hc; (try simp at hc); (all_goals first | (exfalso; omega) | skip))))
      all_goals first | (exfalso; omega) | (refine ⟨_, by simp [pf375]; rfl, ?_⟩; exact ⟨(_, (d376 (d376 (d376 c).2).2).2), rfl, q4.1, fun _ => q4.2, fun h => absurd h h0⟩)

noncomputable def d375 (c : XCur) (n : Int) : (Int) × XCur := Classical.choose (d375_ex c n)

@[simp] theorem t375 (c : XCur) (n : Int) : Gw TT 375 [.ptr [.ro false (.sl 1 (c.b.map eb)), .ro false (di (c.i : Nat)), .ro false (di c.h)], vi n] = some (vi (d375 c n).1, [(0, 0, .ro false (.sl 1 ((d375 c n).2.b.map eb))), (0, 1, .ro false (di ((d375 c n).2.i : Nat))), (0, 2, .ro false (di (d375 c n).2.h))]) := (Classical.choose_spec (d375_ex c n)).1

theorem p375 (c : XCur) (n : Int) : 0 ≤ (d375 c n).1 ∧ (0 < n → (d375 c n).1 < n) ∧ (n ≤ 0 → (d375 c n).1 = 0) := (Classical.choose_spec (d375_ex c n)).2

theorem d382_ex (c : XCur) (n : Int) : ∃ r : (Bool) × XCur, Gw TT 382 [.ptr [.ro false (.sl 1 (c.b.map eb)), .ro false (di (c.i : Nat)), .ro false (di c.h)], vi n] = some (vb r.1, [(0, 0, .ro false (.sl 1 (r.2.b.map eb))), (0, 1, .ro false (di (r.2.i : Nat))), (0, 2, .ro false (di r.2.h))]) ∧ (True) := by
  suffices h0 : ∃ y, Gw TT 382 [.ptr [.ro false (.sl 1 (c.b.map eb)), .ro false (di (c.i : Nat)), .ro false (di c.h)], vi n] = some y ∧ ∃ r : (Bool) × XCur, y = (vb r.1, [(0, 0, .ro false (.sl 1 (r.2.b.map eb))), (0, 1, .ro false (di (r.2.i : Nat))), (0, 2, .ro false (di r.2.h))]) ∧ (True) by
    obtain ⟨y, h1, r, rfl, h2⟩ := h0
    exact ⟨r, h1, h2⟩
  refine Gw_ofE (F := pf382) rfl rfl ?_
  show Wp _ pb382 _ _
  unfold pb382
  repeat' (first
    | with_reducible (first | refine wp_seq ?_ | refine wp_blk ?_ | refine wp_skip ?_ | refine wp_exit ?_ | refine wp_ret ?_ | refine seqQ_norm ?_ | refine seqQ_ret ?_ | refine seqQ_exit ?_ | refine blkQ_norm ?_ | refine blkQ_ret ?_ | refine blkQ_exit ?_ | refine loopQ_norm ?_ | refine loopQ_exit ?_ | refine loopQ_ret ?_ | refine endQ_ret ?_ | refine endQ_norm ?_ | refine endE_ret ?_ | refine endE_norm ?_ | refine endI_ret ?_ | refine endI_norm ?_)
    | (with_reducible refine wp_regK fun K hK => ?_
       simp
       repeat' (with_reducible first | refine hK _ ?_ | (refine psel ?_ ?_ <;> (intro hc; (try rw [Decidable.not_not] at hc); first | (exfalso; omega) | (try simp [hc]))))
       all_goals (clear hK; clear K))
    | (with_reducible refine wp_condE ?_
       refine ⟨_, rfl, ?_, ?_⟩ <;> (intro hc; (try simp at hc); (all_goals first | (exfalso; omega) | skip))))
  all_goals (refine ⟨_, by simp [pf382]; rfl, ?_⟩; exact ⟨((d375 c n).1 == 0, (d375 c n).2), rfl, trivial⟩)

noncomputable def d382 (c : XCur) (n : Int) : (Bool) × XCur := Classical.choose (d382_ex c n)

@[simp] theorem t382 (c : XCur) (n : Int) : Gw TT 382 [.ptr [.ro false (.sl 1 (c.b.map eb)), .ro false (di (c.i : Nat)), .ro false (di c.h)], vi n] = some (vb (d382 c n).1, [(0, 0, .ro false (.sl 1 ((d382 c n).2.b.map eb))), (0, 1, .ro false (di ((d382 c n).2.i : Nat))), (0, 2, .ro false (di (d382 c n).2.h))]) := (Classical.choose_spec (d382_ex c n)).1

theorem d378_ex (c : XCur) (k0 : Bool) (L : List (List D)) (h0 : 0 < L.length) (h1 : L.length ≤ 256) (hL : ∀ e ∈ L, ∃ n : Int, e = [di n]) : ∃ r : (Int) × XCur, Gw TT 378 [.ptr [.ro false (.sl 1 (c.b.map eb)), .ro false (di (c.i : Nat)), .ro false (di c.h)], .one (.ro k0 (.sl 1 L))] = some (vi r.1, [(0, 0, .ro false (.sl 1 (r.2.b.map eb))), (0, 1, .ro false (di (r.2.i : Nat))), (0, 2, .ro false (di r.2.h))]) ∧ ([di r.1] ∈ L) := by
  suffices h0 : ∃ y, Gw TT 378 [.ptr [.ro false (.sl 1 (c.b.map eb)), .ro false (di (c.i : Nat)), .ro false (di c.h)], .one (.ro k0 (.sl 1 L))] = some y ∧ ∃ r : (Int) × XCur, y = (vi r.1, [(0, 0, .ro false (.sl 1 (r.2.b.map eb))), (0, 1, .ro false (di (r.2.i : Nat))), (0, 2, .ro false (di r.2.h))]) ∧ ([di r.1] ∈ L) by
    obtain ⟨y, h1, r, rfl, h2⟩ := h0
    exact ⟨r, h1, h2⟩
  refine Gw_ofE (F := pf378) rfl rfl ?_
  show Wp _ pb378 _ _
  unfold pb378
  obtain ⟨q1, q2, q3⟩ := p375 c (L.length : Int)
  have q4 := q2 (by omega)
  have hlt : (d375 c (L.length : Int)).1.toNat < L.length := by omega
  obtain ⟨x, hx⟩ := hL _ (List.getElem_mem hlt)
  have hx2 : L[(d375 c (L.length : Int)).1.toNat]? = some [di x] := by rw [List.getElem?_eq_getElem hlt, hx]
  repeat' (first
    | with_reducible (first | refine wp_seq ?_ | refine wp_blk ?_ | refine wp_skip ?_ | refine wp_exit ?_ | refine wp_ret ?_ | refine seqQ_norm ?_ | refine seqQ_ret ?_ | refine seqQ_exit ?_ | refine blkQ_norm ?_ | refine blkQ_ret ?_ | refine blkQ_exit ?_ | refine loopQ_norm ?_ | refine loopQ_exit ?_ | refine loopQ_ret ?_ | refine endQ_ret ?_ | refine endQ_norm ?_ | refine endE_ret ?_ | refine endE_norm ?_ | refine endI_ret ?_ | refine endI_norm ?_)
    | (with_reducible refine wp_regK fun K hK => ?_
       simp[q1, q4, hx2, hx]
       repeat' (with_reducible first | refine hK _ ?_ | (refine psel ?_ ?_ <;> (intro hc; (try rw [Decidable.not_not] at hc); first | (exfalso; omega) | (try simp [hc, q1, q4, hx2, hx]))))
       all_goals (clear hK; clear K))
    | (with_reducible refine wp_condE ?_
       refine ⟨_, rfl, ?_, ?_⟩ <;> (intro hc; (try simp at hc); (all_goals first | (exfalso; omega) | skip))))
  all_goals first | (exfalso; omega) | (refine ⟨_, by simp [pf378]; rfl, ?_⟩; exact ⟨(x, (d375 c (L.length : Int)).2), rfl, hx ▸ List.getElem_mem hlt⟩)

noncomputable def d378 (c : XCur) (k0 : Bool) (L : List (List D)) (h0 : 0 < L.length) (h1 : L.length ≤ 256) (hL : ∀ e ∈ L, ∃ n : Int, e = [di n]) : (Int) × XCur := Classical.choose (d378_ex c k0 L h0 h1 hL)

theorem t378 (c : XCur) (k0 : Bool) (L : List (List D)) (h0 : 0 < L.length) (h1 : L.length ≤ 256) (hL : ∀ e ∈ L, ∃ n : Int, e = [di n]) : Gw TT 378 [.ptr [.ro false (.sl 1 (c.b.map eb)), .ro false (di (c.i : Nat)), .ro false (di c.h)], .one (.ro k0 (.sl 1 L))] = some (vi (d378 c k0 L h0 h1 hL).1, [(0, 0, .ro false (.sl 1 ((d378 c k0 L h0 h1 hL).2.b.map eb))), (0, 1, .ro false (di ((d378 c k0 L h0 h1 hL).2.i : Nat))), (0, 2, .ro false (di (d378 c k0 L h0 h1 hL).2.h))]) := (Classical.choose_spec (d378_ex c k0 L h0 h1 hL)).1

@[simp] theorem t141 (k0 : Bool) (b : List Int) (h : b.length ≤ 9223372036854775807) : Gw TT 141 [.one (.ro k0 (.sl 1 (b.map eb)))] = some (vb (decide (1048576 < (b.length : Int))), []) := by
  refine Gw_of (F := pf141) rfl rfl ?_
  show Wp _ pb141 _ _
  unfold pb141
  repeat' (first
    | with_reducible (first | refine wp_seq ?_ | refine wp_blk ?_ | refine wp_skip ?_ | refine wp_exit ?_ | refine wp_ret ?_ | refine seqQ_norm ?_ | refine seqQ_ret ?_ | refine seqQ_exit ?_ | refine blkQ_norm ?_ | refine blkQ_ret ?_ | refine blkQ_exit ?_ | refine loopQ_norm ?_ | refine loopQ_exit ?_ | refine loopQ_ret ?_ | refine endQ_ret ?_ | refine endQ_norm ?_ | refine endE_ret ?_ | refine endE_norm ?_ | refine endI_ret ?_ | refine endI_norm ?_)
    | (with_reducible refine wp_regK fun K hK => ?_
       simp
       repeat' (with_reducible first | refine hK _ ?_ | (refine psel ?_ ?_ <;> (intro hc; (try rw [Decidable.not_not] at hc); first | (exfalso; omega) | (try simp [hc]))))
       all_goals (clear hK; clear K))
    | (with_reducible refine wp_condE ?_
       refine ⟨_, rfl, ?_, ?_⟩ <;> (intro hc; (try simp at hc); (all_goals first | (exfalso; omega) | skip))))
  all_goals simp [pf141]

theorem d385_ex (c : XCur) (k0 : Bool) (L : List (List D)) (h0 : 0 < L.length) (h1 : L.length ≤ 256) (hL : ∀ e ∈ L, ∃ s : ByteArray, e = [.str s] ∧ s.size ≤ 100) : ∃ r : (ByteArray) × XCur, Gw TT 385 [.ptr [.ro false (.sl 1 (c.b.map eb)), .ro false (di (c.i : Nat)), .ro false (di c.h)], .one (.ro k0 (.sl 1 L))] = some (.one (.ro false (.str r.1)), [(0, 0, .ro false (.sl 1 (r.2.b.map eb))), (0, 1, .ro false (di (r.2.i : Nat))), (0, 2, .ro false (di r.2.h))]) ∧ (r.1.size ≤ 100) := by
  suffices h0 : ∃ y, Gw TT 385 [.ptr [.ro false (.sl 1 (c.b.map eb)), .ro false (di (c.i : Nat)), .ro false (di c.h)], .one (.ro k0 (.sl 1 L))] = some y ∧ ∃ r : (ByteArray) × XCur, y = (.one (.ro false (.str r.1)), [(0, 0, .ro false (.sl 1 (r.2.b.map eb))), (0, 1, .ro false (di (r.2.i : Nat))), (0, 2, .ro false (di r.2.h))]) ∧ (r.1.size ≤ 100) by
    obtain ⟨y, h1, r, rfl, h2⟩ := h0
    exact ⟨r, h1, h2⟩
  refine Gw_ofE (F := pf385) rfl rfl ?_
  show Wp _ pb385 _ _
  unfold pb385
  obtain ⟨q1, q2, q3⟩ := p375 c (L.length : Int)
  have q4 := q2 (by omega)
  have hlt : (d375 c (L.length : Int)).1.toNat < L.length := by omega
  obtain ⟨x, hx, hxs⟩ := hL _ (List.getElem_mem hlt)
  have hx2 : L[(d375 c (L.length : Int)).1.toNat]? = some [.str x] := by rw [List.getElem?_eq_getElem hlt, hx]
  repeat' (first
    | with_reducible (first | refine wp_seq ?_ | refine wp_blk ?_ | refine wp_skip ?_ | refine wp_exit ?_ | refine wp_ret ?_ | refine seqQ_norm ?_ | refine seqQ_ret ?_ | refine seqQ_exit ?_ | refine blkQ_norm ?_ | refine blkQ_ret ?_ | refine blkQ_exit ?_ | refine loopQ_norm ?_ | refine loopQ_exit ?_ | refine loopQ_ret ?_ | refine endQ_ret ?_ | refine endQ_norm ?_ | refine endE_ret ?_ | refine endE_norm ?_ | refine endI_ret ?_ | refine endI_norm ?_)
    | (with_reducible refine wp_regK fun K hK => ?_
       simp[q1, q4, hx2, hx]
       repeat' (with_reducible first | refine hK _ ?_ | (refine psel ?_ ?_ <;> (intro hc; (try rw [Decidable.not_not] at hc); first | (exfalso; omega) | (try simp [hc, q1, q4, hx2, hx]))))
       all_goals (clear hK; clear K))
    | (with_reducible refine wp_condE ?_
       refine ⟨_, rfl, ?_, ?_⟩ <;> (intro hc; (try simp at hc); (all_goals first | (exfalso; omega) | skip))))
  all_goals first | (exfalso; omega) | (refine ⟨_, by simp [pf385]; rfl, ?_⟩; exact ⟨(x, (d375 c (L.length : Int)).2), rfl, hxs⟩)

noncomputable def d385 (c : XCur) (k0 : Bool) (L : List (List D)) (h0 : 0 < L.length) (h1 : L.length ≤ 256) (hL : ∀ e ∈ L, ∃ s : ByteArray, e = [.str s] ∧ s.size ≤ 100) : (ByteArray) × XCur := Classical.choose (d385_ex c k0 L h0 h1 hL)

theorem t385 (c : XCur) (k0 : Bool) (L : List (List D)) (h0 : 0 < L.length) (h1 : L.length ≤ 256) (hL : ∀ e ∈ L, ∃ s : ByteArray, e = [.str s] ∧ s.size ≤ 100) : Gw TT 385 [.ptr [.ro false (.sl 1 (c.b.map eb)), .ro false (di (c.i : Nat)), .ro false (di c.h)], .one (.ro k0 (.sl 1 L))] = some (.one (.ro false (.str (d385 c k0 L h0 h1 hL).1)), [(0, 0, .ro false (.sl 1 ((d385 c k0 L h0 h1 hL).2.b.map eb))), (0, 1, .ro false (di ((d385 c k0 L h0 h1 hL).2.i : Nat))), (0, 2, .ro false (di (d385 c k0 L h0 h1 hL).2.h))]) := (Classical.choose_spec (d385_ex c k0 L h0 h1 hL)).1

theorem p385 (c : XCur) (k0 : Bool) (L : List (List D)) (h0 : 0 < L.length) (h1 : L.length ≤ 256) (hL : ∀ e ∈ L, ∃ s : ByteArray, e = [.str s] ∧ s.size ≤ 100) : (d385 c k0 L h0 h1 hL).1.size ≤ 100 := (Classical.choose_spec (d385_ex c k0 L h0 h1 hL)).2

theorem d357_ex (c : XCur)  : ∃ r : (Int) × XCur, Gw TT 357 [.ptr [.ro false (.sl 1 (c.b.map eb)), .ro false (di (c.i : Nat)), .ro false (di c.h)]] = some (vi r.1, [(0, 0, .ro false (.sl 1 (r.2.b.map eb))), (0, 1, .ro false (di (r.2.i : Nat))), (0, 2, .ro false (di r.2.h))]) ∧ (True) := by
  suffices h0 : ∃ y, Gw TT 357 [.ptr [.ro false (.sl 1 (c.b.map eb)), .ro false (di (c.i : Nat)), .ro false (di c.h)]] = some y ∧ ∃ r : (Int) × XCur, y = (vi r.1, [(0, 0, .ro false (.sl 1 (r.2.b.map eb))), (0, 1, .ro false (di (r.2.i : Nat))), (0, 2, .ro false (di r.2.h))]) ∧ (True) by
    obtain ⟨y, h1, r, rfl, h2⟩ := h0
    exact ⟨r, h1, h2⟩
  refine Gw_ofE (F := pf357) rfl rfl ?_
  show Wp _ pb357 _ _
  unfold pb357
  obtain ⟨r, gr⟩ : ∃ r : Int × XCur, Gw TT 378 [.ptr [.ro false (.sl 1 (c.b.map eb)), .ro false (di (c.i : Nat)), .ro false (di c.h)], .one (.ro true (.sl 1 [[di 0], [di 0], [di (-1)], [di (-1)], [di 1], [di 2], [di 3], [di 7], [di (-2)]]))] = some (vi r.1, [(0, 0, .ro false (.sl 1 (r.2.b.map eb))), (0, 1, .ro false (di (r.2.i : Nat))), (0, 2, .ro false (di r.2.h))]) := ⟨_, t378 c true [[di 0], [di 0], [di (-1)], [di (-1)], [di 1], [di 2], [di 3], [di 7], [di (-2)]] (by simp) (by simp) (by simp)⟩
  repeat' (first
    | with_reducible (first | refine wp_seq ?_ | refine wp_blk ?_ | refine wp_skip ?_ | refine wp_exit ?_ | refine wp_ret ?_ | refine seqQ_norm ?_ | refine seqQ_ret ?_ | refine seqQ_exit ?_ | refine blkQ_norm ?_ | refine blkQ_ret ?_ | refine blkQ_exit ?_ | refine loopQ_norm ?_ | refine loopQ_exit ?_ | refine loopQ_ret ?_ | refine endQ_ret ?_ | refine endQ_norm ?_ | refine endE_ret ?_ | refine endE_norm ?_ | refine endI_ret ?_ | refine endI_norm ?_)
    | (with_reducible refine wp_regK fun K hK => ?_
       simp[gr]
       repeat' (with_reducible first | refine hK _ ?_ | (refine psel ?_ ?_ <;> (intro hc; (try rw [Decidable.not_not] at hc); first | (exfalso; omega) | (try simp [hc, gr]))))
       all_goals (clear hK; clear K))
    | (with_reducible refine wp_condE ?_
       refine ⟨_, rfl, ?_, ?_⟩ <;> (intro hc; (try simp at hc); (all_goals first | (exfalso; omega) | skip))))
  all_goals (refine ⟨_, by simp [pf357]; rfl, ?_⟩; refine ⟨(r.1, r.2), ?_, trivial⟩; (focus (first | (simp; done) | (simp [*]; done))))

noncomputable def d357 (c : XCur)  : (Int) × XCur := Classical.choose (d357_ex c)

@[simp] theorem t357 (c : XCur)  : Gw TT 357 [.ptr [.ro false (.sl 1 (c.b.map eb)), .ro false (di (c.i : Nat)), .ro false (di c.h)]] = some (vi (d357 c).1, [(0, 0, .ro false (.sl 1 ((d357 c).2.b.map eb))), (0, 1, .ro false (di ((d357 c).2.i : Nat))), (0, 2, .ro false (di (d357 c).2.h))]) := (Classical.choose_spec (d357_ex c)).1

theorem d381_ex (c : XCur)  : ∃ r : (Int) × XCur, Gw TT 381 [.ptr [.ro false (.sl 1 (c.b.map eb)), .ro false (di (c.i : Nat)), .ro false (di c.h)]] = some (vi r.1, [(0, 0, .ro false (.sl 1 (r.2.b.map eb))), (0, 1, .ro false (di (r.2.i : Nat))), (0, 2, .ro false (di r.2.h))]) ∧ (True) := by
  suffices h0 : ∃ y, Gw TT 381 [.ptr [.ro false (.sl 1 (c.b.map eb)), .ro false (di (c.i : Nat)), .ro false (di c.h)]] = some y ∧ ∃ r : (Int) × XCur, y = (vi r.1, [(0, 0, .ro false (.sl 1 (r.2.b.map eb))), (0, 1, .ro false (di (r.2.i : Nat))), (0, 2, .ro false (di r.2.h))]) ∧ (True) by
    obtain ⟨y, h1, r, rfl, h2⟩ := h0
    exact ⟨r, h1, h2⟩
  refine Gw_ofE (F := pf381) rfl rfl ?_
  show Wp _ pb381 _ _
  unfold pb381
  obtain ⟨r, gr⟩ : ∃ r : Int × XCur, Gw TT 378 [.ptr [.ro false (.sl 1 (c.b.map eb)), .ro false (di (c.i : Nat)), .ro false (di c.h)], .one (.ro true (.sl 1 [[di (-1)], [di 0], [di 1], [di 2], [di 255], [di 256], [di 65535], [di 2147483647], [di 2147483648], [di 4294967295], [di 4294967296], [di (-2147483648)], [di 9223372036854775807], [di (-9223372036854775808)]]))] = some (vi r.1, [(0, 0, .ro false (.sl 1 (r.2.b.map eb))), (0, 1, .ro false (di (r.2.i : Nat))), (0, 2, .ro false (di r.2.h))]) := ⟨_, t378 c true [[di (-1)], [di 0], [di 1], [di 2], [di 255], [di 256], [di 65535], [di 2147483647], [di 2147483648], [di 4294967295], [di 4294967296], [di (-2147483648)], [di 9223372036854775807], [di (-9223372036854775808)]] (by simp) (by simp) (by simp)⟩
  repeat' (first
    | with_reducible (first | refine wp_seq ?_ | refine wp_blk ?_ | refine wp_skip ?_ | refine wp_exit ?_ | refine wp_ret ?_ | refine seqQ_norm ?_ | refine seqQ_ret ?_ | refine seqQ_exit ?_ | refine blkQ_norm ?_ | refine blkQ_ret ?_ | refine blkQ_exit ?_ | refine loopQ_norm ?_ | refine loopQ_exit ?_ | refine loopQ_ret ?_ | refine endQ_ret ?_ | refine endQ_norm ?_ | refine endE_ret ?_ | refine endE_norm ?_ | refine endI_ret ?_ | refine endI_norm ?_)
    | (with_reducible refine wp_regK fun K hK => ?_
       simp[gr]
       repeat' (with_reducible first | refine hK _ ?_ | (refine psel ?_ ?_ <;> (intro hc; (try rw [Decidable.not_not] at hc); first | (exfalso; omega) | (try simp [hc, gr]))))
       all_goals (clear hK; clear K))
    | (with_reducible refine wp_condE ?_
       refine ⟨_, rfl, ?_, ?_⟩ <;> (intro hc; (try simp at hc); (all_goals first | (exfalso; omega) | skip))))
  all_goals (refine ⟨_, by simp [pf381]; rfl, ?_⟩; refine ⟨(r.1, r.2), ?_, trivial⟩; (focus (first | (simp; done) | (simp [*]; done))))

noncomputable def d381 (c : XCur)  : (Int) × XCur := Classical.choose (d381_ex c)

@[simp] theorem t381 (c : XCur)  : Gw TT 381 [.ptr [.ro false (.sl 1 (c.b.map eb)), .ro false (di (c.i : Nat)), .ro false (di c.h)]] = some (vi (d381 c).1, [(0, 0, .ro false (.sl 1 ((d381 c).2.b.map eb))), (0, 1, .ro false (di ((d381 c).2.i : Nat))), (0, 2, .ro false (di (d381 c).2.h))]) := (Classical.choose_spec (d381_ex c)).1

theorem d380_ex (c : XCur)  : ∃ r : (Int) × XCur, Gw TT 380 [.ptr [.ro false (.sl 1 (c.b.map eb)), .ro false (di (c.i : Nat)), .ro false (di c.h)]] = some (vi r.1, [(0, 0, .ro false (.sl 1 (r.2.b.map eb))), (0, 1, .ro false (di (r.2.i : Nat))), (0, 2, .ro false (di r.2.h))]) ∧ (True) := by
  suffices h0 : ∃ y, Gw TT 380 [.ptr [.ro false (.sl 1 (c.b.map eb)), .ro false (di (c.i : Nat)), .ro false (di c.h)]] = some y ∧ ∃ r : (Int) × XCur, y = (vi r.1, [(0, 0, .ro false (.sl 1 (r.2.b.map eb))), (0, 1, .ro false (di (r.2.i : Nat))), (0, 2, .ro false (di r.2.h))]) ∧ (True) by
    obtain ⟨y, h1, r, rfl, h2⟩ := h0
    exact ⟨r, h1, h2⟩
  refine Gw_ofE (F := pf380) rfl rfl ?_
  show Wp _ pb380 _ _
  unfold pb380
  obtain ⟨⟨v, c1⟩, hv⟩ : ∃ r, d375 c 5 = r := ⟨_, rfl⟩
  obtain ⟨r, gr⟩ : ∃ r : Int × XCur, Gw TT 378 [.ptr [.ro false (.sl 1 (c1.b.map eb)), .ro false (di (c1.i : Nat)), .ro false (di c1.h)], .one (.ro true (.sl 1 [[di 0], [di (-1)], [di 1], [di 63], [di 64], [di (-64)], [di (-65)], [di 8191], [di 8192], [di 1000000000], [di (-1000000000)], [di 999999999]]))] = some (vi r.1, [(0, 0, .ro false (.sl 1 (r.2.b.map eb))), (0, 1, .ro false (di (r.2.i : Nat))), (0, 2, .ro false (di r.2.h))]) := ⟨_, t378 c1 true [[di 0], [di (-1)], [di 1], [di 63], [di 64], [di (-64)], [di (-65)], [di 8191], [di 8192], [di 1000000000], [di (-1000000000)], [di 999999999]] (by simp) (by simp) (by simp)⟩
  repeat' (first
    | with_reducible (first | refine wp_seq ?_ | refine wp_blk ?_ | refine wp_skip ?_ | refine wp_exit ?_ | refine wp_ret ?_ | refine seqQ_norm ?_ | refine seqQ_ret ?_ | refine seqQ_exit ?_ | refine blkQ_norm ?_ | refine blkQ_ret ?_ | refine blkQ_exit ?_ | refine loopQ_norm ?_ | refine loopQ_exit ?_ | refine loopQ_ret ?_ | refine endQ_ret ?_ | refine endQ_norm ?_ | refine endE_ret ?_ | refine endE_norm ?_ | refine endI_ret ?_ | refine endI_norm ?_)
    | (with_reducible refine wp_regK fun K hK => ?_
       simp[hv, gr]
       repeat' (with_reducible first | refine hK _ ?_ | (refine psel ?_ ?_ <;> (intro hc; (try rw [Decidable.not_not] at hc); first | (exfalso; omega) | (try simp [hc, hv, gr]))))
       all_goals (clear hK; clear K))
    | (with_reducible refine wp_condE ?_
       refine ⟨_, rfl, ?_, ?_⟩ <;> (intro hc; (try simp at hc); (all_goals first | (exfalso; omega) | skip))))
  all_goals first | (exfalso; omega) | (refine ⟨_, by simp [pf380]; rfl, ?_⟩; refine ⟨(r.1, r.2), ?_, trivial⟩; (focus (first | (simp; done) | (simp [*]; done)))) | (refine ⟨_, by simp [pf380]; rfl, ?_⟩; refine ⟨(IntKind.wrap .i64 ((d375 c1 300).1 - 150), (d375 c1 300).2), ?_, trivial⟩; (focus (first | (simp; done) | (simp [*]; done)))) | (refine ⟨_, by simp [pf380]; rfl, ?_⟩; refine ⟨(IntKind.wrap .i64 ((d375 c1 30000).1 * IntKind.wrap .i64 ((d375 (d375 c1 30000).2 30000).1 - 15000)), (d375 (d375 c1 30000).2 30000).2), ?_, trivial⟩; (focus (first | (simp; done) | (simp [*]; done)))) | (refine ⟨_, by simp [pf380]; rfl, ?_⟩; refine ⟨(IntKind.wrap .i64 ((d375 c1 20).1 - 5), (d375 c1 20).2), ?_, trivial⟩; (focus (first | (simp; done) | (simp [*]; done)))) | skip

noncomputable def d380 (c : XCur)  : (Int) × XCur := Classical.choose (d380_ex c)

@[simp] theorem t380 (c : XCur)  : Gw TT 380 [.ptr [.ro false (.sl 1 (c.b.map eb)), .ro false (di (c.i : Nat)), .ro false (di c.h)]] = some (vi (d380 c).1, [(0, 0, .ro false (.sl 1 ((d380 c).2.b.map eb))), (0, 1, .ro false (di ((d380 c).2.i : Nat))), (0, 2, .ro false (di (d380 c).2.h))]) := (Classical.choose_spec (d380_ex c)).1

theorem d383_ex (c : XCur)  : ∃ r : (Int) × XCur, Gw TT 383 [.ptr [.ro false (.sl 1 (c.b.map eb)), .ro false (di (c.i : Nat)), .ro false (di c.h)]] = some (vi r.1, [(0, 0, .ro false (.sl 1 (r.2.b.map eb))), (0, 1, .ro false (di (r.2.i : Nat))), (0, 2, .ro false (di r.2.h))]) ∧ (True) := by
  suffices h0 : ∃ y, Gw TT 383 [.ptr [.ro false (.sl 1 (c.b.map eb)), .ro false (di (c.i : Nat)), .ro false (di c.h)]] = some y ∧ ∃ r : (Int) × XCur, y = (vi r.1, [(0, 0, .ro false (.sl 1 (r.2.b.map eb))), (0, 1, .ro false (di (r.2.i : Nat))), (0, 2, .ro false (di r.2.h))]) ∧ (True) by
    obtain ⟨y, h1, r, rfl, h2⟩ := h0
    exact ⟨r, h1, h2⟩
  refine Gw_ofE (F := pf383) rfl rfl ?_
  show Wp _ pb383 _ _
  unfold pb383
  obtain ⟨⟨v, c1⟩, hv⟩ : ∃ r, d382 c 3 = r := ⟨_, rfl⟩
  obtain ⟨r, gr⟩ : ∃ r : Int × XCur, Gw TT 378 [.ptr [.ro false (.sl 1 (c1.b.map eb)), .ro false (di (c1.i : Nat)), .ro false (di c1.h)], .one (.ro true (.sl 1 [[di 1000000001], [di (-1000000001)], [di 2000000000], [di 2000000001], [di 0], [di (-1)]]))] = some (vi r.1, [(0, 0, .ro false (.sl 1 (r.2.b.map eb))), (0, 1, .ro false (di (r.2.i : Nat))), (0, 2, .ro false (di r.2.h))]) := ⟨_, t378 c1 true [[di 1000000001], [di (-1000000001)], [di 2000000000], [di 2000000001], [di 0], [di (-1)]] (by simp) (by simp) (by simp)⟩
  cases v with
  | true =>
    repeat' (first
      | with_reducible (first | refine wp_seq ?_ | refine wp_blk ?_ | refine wp_skip ?_ | refine wp_exit ?_ | refine wp_ret ?_ | refine seqQ_norm ?_ | refine seqQ_ret ?_ | refine seqQ_exit ?_ | refine blkQ_norm ?_ | refine blkQ_ret ?_ | refine blkQ_exit ?_ | refine loopQ_norm ?_ | refine loopQ_exit ?_ | refine loopQ_ret ?_ | refine endQ_ret ?_ | refine endQ_norm ?_ | refine endE_ret ?_ | refine endE_norm ?_ | refine endI_ret ?_ | refine endI_norm ?_)
      | (with_reducible refine wp_regK fun K hK => ?_
         simp[hv]
         repeat' (with_reducible first | refine hK _ ?_ | (refine psel ?_ ?_ <;> (intro hc; (try rw [Decidable.not_not] at hc); first | (exfalso; omega) | (try simp [hc, hv]))))
         all_goals (clear hK; clear K))
      | (with_reducible refine wp_condE ?_
         refine ⟨_, rfl, ?_, ?_⟩ <;> (intro hc; (try simp at hc); (all_goals first | (exfalso; omega) | skip))))
    all_goals (refine ⟨_, by simp [pf383]; rfl, ?_⟩; refine ⟨((d381 c1).1, (d381 c1).2), ?_, trivial⟩; (focus (first | (simp; done) | (simp [*]; done))))
  | false =>
    repeat' (first
      | with_reducible (first | refine wp_seq ?_ | refine wp_blk ?_ | refine wp_skip ?_ | refine wp_exit ?_ | refine wp_ret ?_ | refine seqQ_norm ?_ | refine seqQ_ret ?_ | refine seqQ_exit ?_ | refine blkQ_norm ?_ | refine blkQ_ret ?_ | refine blkQ_exit ?_ | refine loopQ_norm ?_ | refine loopQ_exit ?_ | refine loopQ_ret ?_ | refine endQ_ret ?_ | refine endQ_norm ?_ | refine endE_ret ?_ | refine endE_norm ?_ | refine endI_ret ?_ | refine endI_norm ?_)
      | (with_reducible refine wp_regK fun K hK => ?_
         simp[hv, gr]
         repeat' (with_reducible first | refine hK _ ?_ | (refine psel ?_ ?_ <;> (intro hc; (try rw [Decidable.not_not] at hc); first | (exfalso; omega) | (try simp [hc, hv, gr]))))
         all_goals (clear hK; clear K))
      | (with_reducible refine wp_condE ?_
         refine ⟨_, rfl, ?_, ?_⟩ <;> (intro hc; (try simp at hc); (all_goals first | (exfalso; omega) | skip))))
    all_goals (refine ⟨_, by simp [pf383]; rfl, ?_⟩; refine ⟨(r.1, r.2), ?_, trivial⟩; (focus (first | (simp; done) | (simp [*]; done))))

noncomputable def d383 (c : XCur)  : (Int) × XCur := Classical.choose (d383_ex c)

@[simp] theorem t383 (c : XCur)  : Gw TT 383 [.ptr [.ro false (.sl 1 (c.b.map eb)), .ro false (di (c.i : Nat)), .ro false (di c.h)]] = some (vi (d383 c).1, [(0, 0, .ro false (.sl 1 ((d383 c).2.b.map eb))), (0, 1, .ro false (di ((d383 c).2.i : Nat))), (0, 2, .ro false (di (d383 c).2.h))]) := (Classical.choose_spec (d383_ex c)).1

theorem d395_ex (c : XCur)  : ∃ r : (XVal) × XCur, Gw TT 395 [.ptr [.ro false (.sl 1 (c.b.map eb)), .ro false (di (c.i : Nat)), .ro false (di c.h)]] = some (.st [.ro false (di r.1.Ty), .ro false (di r.1.N), .ro false (.str r.1.S)], [(0, 0, .ro false (.sl 1 (r.2.b.map eb))), (0, 1, .ro false (di (r.2.i : Nat))), (0, 2, .ro false (di r.2.h))]) ∧ (r.1.S.size ≤ 100) := by
  suffices h0 : ∃ y, Gw TT 395 [.ptr [.ro false (.sl 1 (c.b.map eb)), .ro false (di (c.i : Nat)), .ro false (di c.h)]] = some y ∧ ∃ r : (XVal) × XCur, y = (.st [.ro false (di r.1.Ty), .ro false (di r.1.N), .ro false (.str r.1.S)], [(0, 0, .ro false (.sl 1 (r.2.b.map eb))), (0, 1, .ro false (di (r.2.i : Nat))), (0, 2, .ro false (di r.2.h))]) ∧ (r.1.S.size ≤ 100) by
    obtain ⟨y, h1, r, rfl, h2⟩ := h0
    exact ⟨r, h1, h2⟩
  refine Gw_ofE (F := pf395) rfl rfl ?_
  show Wp _ pb395 _ _
  unfold pb395
  obtain ⟨⟨v, c1⟩, hv⟩ : ∃ r, d382 c 4 = r := ⟨_, rfl⟩
  obtain ⟨r, gr⟩ : ∃ r : Int × XCur, Gw TT 378 [.ptr [.ro false (.sl 1 (c1.b.map eb)), .ro false (di (c1.i : Nat)), .ro false (di c1.h)], .one (.ro true (.sl 1 [[di 0], [di 1], [di 2], [di 3], [di 7], [di (-1)]]))] = some (vi r.1, [(0, 0, .ro false (.sl 1 (r.2.b.map eb))), (0, 1, .ro false (di (r.2.i : Nat))), (0, 2, .ro false (di r.2.h))]) := ⟨_, t378 c1 true [[di 0], [di 1], [di 2], [di 3], [di 7], [di (-1)]] (by simp) (by simp) (by simp)⟩
  cases v with
  | true =>
    repeat' (first
      | with_reducible (first | refine wp_seq ?_ | refine wp_blk ?_ | refine wp_skip ?_ | refine wp_exit ?_ | refine wp_ret ?_ | refine seqQ_norm ?_ | refine seqQ_ret ?_ | refine seqQ_exit ?_ | refine blkQ_norm ?_ | refine blkQ_ret ?_ | refine blkQ_exit ?_ | refine loopQ_norm ?_ | refine loopQ_exit ?_ | refine loopQ_ret ?_ | refine endQ_ret ?_ | refine endQ_norm ?_ | refine endE_ret ?_ | refine endE_norm ?_ | refine endI_ret ?_ | refine endI_norm ?_)
      | (with_reducible refine wp_regK fun K hK => ?_
         simp[hv]
         repeat' (with_reducible first | refine hK _ ?_ | (refine psel ?_ ?_ <;> (intro hc; (try rw [Decidable.not_not] at hc); first | (exfalso; omega) | (try simp [hc, hv]))))
         all_goals (clear hK; clear K))
      | (with_reducible refine wp_condE ?_
         refine ⟨_, rfl, ?_, ?_⟩ <;> (intro hc; (try simp at hc); (all_goals first | (exfalso; omega) | skip))))
    all_goals (refine ⟨_, by simp [pf395]; rfl, ?_⟩; refine ⟨((⟨1, (d380 c1).1, ⟨#[]⟩⟩ : XVal), (d380 c1).2), ?_, ?_⟩; (focus (first | (simp; done) | (simp [*]; done))); (focus (simp [ByteArray.size])))
  | false =>
    repeat' (first
      | with_reducible (first | refine wp_seq ?_ | refine wp_blk ?_ | refine wp_skip ?_ | refine wp_exit ?_ | refine wp_ret ?_ | refine seqQ_norm ?_ | refine seqQ_ret ?_ | refine seqQ_exit ?_ | refine blkQ_norm ?_ | refine blkQ_ret ?_ | refine blkQ_exit ?_ | refine loopQ_norm ?_ | refine loopQ_exit ?_ | refine loopQ_ret ?_ | refine endQ_ret ?_ | refine endQ_norm ?_ | refine endE_ret ?_ | refine endE_norm ?_ | refine endI_ret ?_ | refine endI_norm ?_)
      | (with_reducible refine wp_regK fun K hK => ?_
         simp[hv, gr]
         repeat' (with_reducible first | refine hK _ ?_ | (refine psel ?_ ?_ <;> (intro hc; (try rw [Decidable.not_not] at hc); first | (exfalso; omega) | (try simp [hc, hv, gr]))))
         all_goals (clear hK; clear K))
      | (with_reducible refine wp_condE ?_
         refine ⟨_, rfl, ?_, ?_⟩ <;> (intro hc; (try simp at hc); (all_goals first | (exfalso; omega) | skip))))
    all_goals (refine ⟨_, by simp [pf395]; rfl, ?_⟩; refine ⟨((⟨1, r.1, ⟨#[]⟩⟩ : XVal), r.2), ?_, ?_⟩; (focus (first | (simp; done) | (simp [*]; done))); (focus (simp [ByteArray.size])))

noncomputable def d395 (c : XCur)  : (XVal) × XCur := Classical.choose (d395_ex c)

@[simp] theorem t395 (c : XCur)  : Gw TT 395 [.ptr [.ro false (.sl 1 (c.b.map eb)), .ro false (di (c.i : Nat)), .ro false (di c.h)]] = some (.st [.ro false (di (d395 c).1.Ty), .ro false (di (d395 c).1.N), .ro false (.str (d395 c).1.S)], [(0, 0, .ro false (.sl 1 ((d395 c).2.b.map eb))), (0, 1, .ro false (di ((d395 c).2.i : Nat))), (0, 2, .ro false (di (d395 c).2.h))]) := (Classical.choose_spec (d395_ex c)).1

theorem p395 (c : XCur)  : (d395 c).1.S.size ≤ 100 := (Classical.choose_spec (d395_ex c)).2

theorem d396_ex (c : XCur)  : ∃ r : (XVal) × XCur, Gw TT 396 [.ptr [.ro false (.sl 1 (c.b.map eb)), .ro false (di (c.i : Nat)), .ro false (di c.h)]] = some (.st [.ro false (di r.1.Ty), .ro false (di r.1.N), .ro false (.str r.1.S)], [(0, 0, .ro false (.sl 1 (r.2.b.map eb))), (0, 1, .ro false (di (r.2.i : Nat))), (0, 2, .ro false (di r.2.h))]) ∧ (r.1.S.size ≤ 100) := by
  suffices h0 : ∃ y, Gw TT 396 [.ptr [.ro false (.sl 1 (c.b.map eb)), .ro false (di (c.i : Nat)), .ro false (di c.h)]] = some y ∧ ∃ r : (XVal) × XCur, y = (.st [.ro false (di r.1.Ty), .ro false (di r.1.N), .ro false (.str r.1.S)], [(0, 0, .ro false (.sl 1 (r.2.b.map eb))), (0, 1, .ro false (di (r.2.i : Nat))), (0, 2, .ro false (di r.2.h))]) ∧ (r.1.S.size ≤ 100) by
    obtain ⟨y, h1, r, rfl, h2⟩ := h0
    exact ⟨r, h1, h2⟩
  refine Gw_ofE (F := pf396) rfl rfl ?_
  show Wp _ pb396 _ _
  unfold pb396
  have HL : ∀ e ∈ ([[.str ⟨#[]⟩], [.str ⟨#[97]⟩], [.str ⟨#[98]⟩], [.str ⟨#[97, 98]⟩], [.str ⟨#[114, 101, 100]⟩], [.str ⟨#[98, 108, 117, 101]⟩], [.str ⟨#[103, 114, 101, 101, 110]⟩], [.str ⟨#[122, 122, 122, 122, 122, 122]⟩]] : List (List D)), ∃ s : ByteArray, e = [.str s] ∧ s.size ≤ 100 := (by intro e he; simp only [List.mem_cons, List.not_mem_nil, or_false] at he; rcases he with rfl | rfl | rfl | rfl | rfl | rfl | rfl | rfl <;> exact ⟨_, rfl, by decide⟩)
  obtain ⟨r, gr, sr⟩ : ∃ r : ByteArray × XCur, Gw TT 385 [.ptr [.ro false (.sl 1 (c.b.map eb)), .ro false (di (c.i : Nat)), .ro false (di c.h)], .one (.ro true (.sl 1 [[.str ⟨#[]⟩], [.str ⟨#[97]⟩], [.str ⟨#[98]⟩], [.str ⟨#[97, 98]⟩], [.str ⟨#[114, 101, 100]⟩], [.str ⟨#[98, 108, 117, 101]⟩], [.str ⟨#[103, 114, 101, 101, 110]⟩], [.str ⟨#[122, 122, 122, 122, 122, 122]⟩]]))] = some (.one (.ro false (.str r.1)), [(0, 0, .ro false (.sl 1 (r.2.b.map eb))), (0, 1, .ro false (di (r.2.i : Nat))), (0, 2, .ro false (di r.2.h))]) ∧ r.1.size ≤ 100 := ⟨_, t385 c true [[.str ⟨#[]⟩], [.str ⟨#[97]⟩], [.str ⟨#[98]⟩], [.str ⟨#[97, 98]⟩], [.str ⟨#[114, 101, 100]⟩], [.str ⟨#[98, 108, 117, 101]⟩], [.str ⟨#[103, 114, 101, 101, 110]⟩], [.str ⟨#[122, 122, 122, 122, 122, 122]⟩]] (by simp) (by simp) HL, p385 c true [[.str ⟨#[]⟩], [.str ⟨#[97]⟩], [.str ⟨#[98]⟩], [.str ⟨#[97, 98]⟩], [.str ⟨#[114, 101, 100]⟩], [.str ⟨#[98, 108, 117, 101]⟩], [.str ⟨#[103, 114, 101, 101, 110]⟩], [.str ⟨#[122, 122, 122, 122, 122, 122]⟩]] (by simp) (by simp) HL⟩
  repeat' (first
    | with_reducible (first | refine wp_seq ?_ | refine wp_blk ?_ | refine wp_skip ?_ | refine wp_exit ?_ | refine wp_ret ?_ | refine seqQ_norm ?_ | refine seqQ_ret ?_ | refine seqQ_exit ?_ | refine blkQ_norm ?_ | refine blkQ_ret ?_ | refine blkQ_exit ?_ | refine loopQ_norm ?_ | refine loopQ_exit ?_ | refine loopQ_ret ?_ | refine endQ_ret ?_ | refine endQ_norm ?_ | refine endE_ret ?_ | refine endE_norm ?_ | refine endI_ret ?_ | refine endI_norm ?_)
    | (with_reducible refine wp_regK fun K hK => ?_
       simp[gr]
       repeat' (with_reducible first | refine hK _ ?_ | (refine psel ?_ ?_ <;> (intro hc; (try rw [Decidable.not_not] at hc); first | (exfalso; omega) | (try simp [hc, gr]))))
       all_goals (clear hK; clear K))
    | (with_reducible refine wp_condE ?_
       refine ⟨_, rfl, ?_, ?_⟩ <;> (intro hc; (try simp at hc); (all_goals first | (exfalso; omega) | skip))))
  all_goals (refine ⟨_, by simp [pf396]; rfl, ?_⟩; refine ⟨((⟨2, 0, r.1⟩ : XVal), r.2), ?_, ?_⟩; (focus (first | (simp; done) | (simp [*]; done))); (focus (exact sr)))

noncomputable def d396 (c : XCur)  : (XVal) × XCur := Classical.choose (d396_ex c)

@[simp] theorem t396 (c : XCur)  : Gw TT 396 [.ptr [.ro false (.sl 1 (c.b.map eb)), .ro false (di (c.i : Nat)), .ro false (di c.h)]] = some (.st [.ro false (di (d396 c).1.Ty), .ro false (di (d396 c).1.N), .ro false (.str (d396 c).1.S)], [(0, 0, .ro false (.sl 1 ((d396 c).2.b.map eb))), (0, 1, .ro false (di ((d396 c).2.i : Nat))), (0, 2, .ro false (di (d396 c).2.h))]) := (Classical.choose_spec (d396_ex c)).1

theorem p396 (c : XCur)  : (d396 c).1.S.size ≤ 100 := (Classical.choose_spec (d396_ex c)).2

theorem d394_ex (c : XCur)  : ∃ r : (XVal) × XCur, Gw TT 394 [.ptr [.ro false (.sl 1 (c.b.map eb)), .ro false (di (c.i : Nat)), .ro false (di c.h)]] = some (.st [.ro false (di r.1.Ty), .ro false (di r.1.N), .ro false (.str r.1.S)], [(0, 0, .ro false (.sl 1 (r.2.b.map eb))), (0, 1, .ro false (di (r.2.i : Nat))), (0, 2, .ro false (di r.2.h))]) ∧ (r.1.S.size ≤ 100) := by
  suffices h0 : ∃ y, Gw TT 394 [.ptr [.ro false (.sl 1 (c.b.map eb)), .ro false (di (c.i : Nat)), .ro false (di c.h)]] = some y ∧ ∃ r : (XVal) × XCur, y = (.st [.ro false (di r.1.Ty), .ro false (di r.1.N), .ro false (.str r.1.S)], [(0, 0, .ro false (.sl 1 (r.2.b.map eb))), (0, 1, .ro false (di (r.2.i : Nat))), (0, 2, .ro false (di r.2.h))]) ∧ (r.1.S.size ≤ 100) by
    obtain ⟨y, h1, r, rfl, h2⟩ := h0
    exact ⟨r, h1, h2⟩
  refine Gw_ofE (F := pf394) rfl rfl ?_
  show Wp _ pb394 _ _
  unfold pb394
  obtain ⟨⟨v, c1⟩, hv⟩ : ∃ r, d382 c 2 = r := ⟨_, rfl⟩
  cases v with
  | true =>
    repeat' (first
      | with_reducible (first | refine wp_seq ?_ | refine wp_blk ?_ | refine wp_skip ?_ | refine wp_exit ?_ | refine wp_ret ?_ | refine seqQ_norm ?_ | refine seqQ_ret ?_ | refine seqQ_exit ?_ | refine blkQ_norm ?_ | refine blkQ_ret ?_ | refine blkQ_exit ?_ | refine loopQ_norm ?_ | refine loopQ_exit ?_ | refine loopQ_ret ?_ | refine endQ_ret ?_ | refine endQ_norm ?_ | refine endE_ret ?_ | refine endE_norm ?_ | refine endI_ret ?_ | refine endI_norm ?_)
      | (with_reducible refine wp_regK fun K hK => ?_
         simp[hv]
         repeat' (with_reducible first | refine hK _ ?_ | (refine psel ?_ ?_ <;> (intro hc; (try rw [Decidable.not_not] at hc); first | (exfalso; omega) | (try simp [hc, hv]))))
         all_goals (clear hK; clear K))
      | (with_reducible refine wp_condE ?_
         refine ⟨_, rfl, ?_, ?_⟩ <;> (intro hc; (try simp at hc); (all_goals first | (exfalso; omega) | skip))))
    all_goals (refine ⟨_, by simp [pf394]; rfl, ?_⟩; refine ⟨((d395 c1).1, (d395 c1).2), ?_, ?_⟩; (focus (first | (simp; done) | (simp [*]; done))); (focus (exact p395 c1)))
  | false =>
    repeat' (first
      | with_reducible (first | refine wp_seq ?_ | refine wp_blk ?_ | refine wp_skip ?_ | refine wp_exit ?_ | refine wp_ret ?_ | refine seqQ_norm ?_ | refine seqQ_ret ?_ | refine seqQ_exit ?_ | refine blkQ_norm ?_ | refine blkQ_ret ?_ | refine blkQ_exit ?_ | refine loopQ_norm ?_ | refine loopQ_exit ?_ | refine loopQ_ret ?_ | refine endQ_ret ?_ | refine endQ_norm ?_ | refine endE_ret ?_ | refine endE_norm ?_ | refine endI_ret ?_ | refine endI_norm ?_)
      | (with_reducible refine wp_regK fun K hK => ?_
         simp[hv]
         repeat' (with_reducible first | refine hK _ ?_ | (refine psel ?_ ?_ <;> (intro hc; (try rw [Decidable.not_not] at hc); first | (exfalso; omega) | (try simp [hc, hv]))))
         all_goals (clear hK; clear K))
      | (with_reducible refine wp_condE ?_
         refine ⟨_, rfl, ?_, ?_⟩ <;> (intro hc; (try simp at hc); (all_goals first | (exfalso; omega) | skip))))
    all_goals (refine ⟨_, by simp [pf394]; rfl, ?_⟩; refine ⟨((d396 c1).1, (d396 c1).2), ?_, ?_⟩; (focus (first | (simp; done) | (simp [*]; done))); (focus (exact p396 c1)))

noncomputable def d394 (c : XCur)  : (XVal) × XCur := Classical.choose (d394_ex c)

@[simp] theorem t394 (c : XCur)  : Gw TT 394 [.ptr [.ro false (.sl 1 (c.b.map eb)), .ro false (di (c.i : Nat)), .ro false (di c.h)]] = some (.st [.ro false (di (d394 c).1.Ty), .ro false (di (d394 c).1.N), .ro false (.str (d394 c).1.S)], [(0, 0, .ro false (.sl 1 ((d394 c).2.b.map eb))), (0, 1, .ro false (di ((d394 c).2.i : Nat))), (0, 2, .ro false (di (d394 c).2.h))]) := (Classical.choose_spec (d394_ex c)).1

theorem p394 (c : XCur)  : (d394 c).1.S.size ≤ 100 := (Classical.choose_spec (d394_ex c)).2

theorem d393_ex (c : XCur)  : ∃ r : (XVal) × XCur, Gw TT 393 [.ptr [.ro false (.sl 1 (c.b.map eb)), .ro false (di (c.i : Nat)), .ro false (di c.h)]] = some (.st [.ro false (di r.1.Ty), .ro false (di r.1.N), .ro false (.str r.1.S)], [(0, 0, .ro false (.sl 1 (r.2.b.map eb))), (0, 1, .ro false (di (r.2.i : Nat))), (0, 2, .ro false (di r.2.h))]) ∧ (r.1.S.size ≤ 100) := by
  suffices h0 : ∃ y, Gw TT 393 [.ptr [.ro false (.sl 1 (c.b.map eb)), .ro false (di (c.i : Nat)), .ro false (di c.h)]] = some y ∧ ∃ r : (XVal) × XCur, y = (.st [.ro false (di r.1.Ty), .ro false (di r.1.N), .ro false (.str r.1.S)], [(0, 0, .ro false (.sl 1 (r.2.b.map eb))), (0, 1, .ro false (di (r.2.i : Nat))), (0, 2, .ro false (di r.2.h))]) ∧ (r.1.S.size ≤ 100) by
    obtain ⟨y, h1, r, rfl, h2⟩ := h0
    exact ⟨r, h1, h2⟩
  refine Gw_ofE (F := pf393) rfl rfl ?_
  show Wp _ pb393 _ _
  unfold pb393
  have q := p394 c
  obtain ⟨⟨x, c1⟩, hx⟩ : ∃ r, d394 c = r := ⟨_, rfl⟩
  rw [hx] at q
  simp only at q
  obtain ⟨⟨v, c2⟩, hv⟩ : ∃ r, d375 c1 10 = r := ⟨_, rfl⟩
  obtain ⟨r, gr⟩ : ∃ r : Int × XCur, Gw TT 378 [.ptr [.ro false (.sl 1 (c2.b.map eb)), .ro false (di (c2.i : Nat)), .ro false (di c2.h)], .one (.ro true (.sl 1 [[di 0], [di 1], [di 2], [di 3]]))] = some (vi r.1, [(0, 0, .ro false (.sl 1 (r.2.b.map eb))), (0, 1, .ro false (di (r.2.i : Nat))), (0, 2, .ro false (di r.2.h))]) := ⟨_, t378 c2 true [[di 0], [di 1], [di 2], [di 3]] (by simp) (by simp) (by simp)⟩
  have HL : ∀ e ∈ ([[.str ⟨#[97, 32, 98]⟩], [.str ⟨#[115, 101, 118, 101, 110, 55, 55]⟩], [.str ⟨#[127]⟩], [.str ⟨#[126]⟩], [.str ⟨#[33]⟩]] : List (List D)), ∃ s : ByteArray, e = [.str s] ∧ s.size ≤ 100 := (by intro e he; simp only [List.mem_cons, List.not_mem_nil, or_false] at he; rcases he with rfl | rfl | rfl | rfl | rfl <;> exact ⟨_, rfl, by decide⟩)
  obtain ⟨z, gz, sz⟩ : ∃ r : ByteArray × XCur, Gw TT 385 [.ptr [.ro false (.sl 1 (c2.b.map eb)), .ro false (di (c2.i : Nat)), .ro false (di c2.h)], .one (.ro true (.sl 1 [[.str ⟨#[97, 32, 98]⟩], [.str ⟨#[115, 101, 118, 101, 110, 55, 55]⟩], [.str ⟨#[127]⟩], [.str ⟨#[126]⟩], [.str ⟨#[33]⟩]]))] = some (.one (.ro false (.str r.1)), [(0, 0, .ro false (.sl 1 (r.2.b.map eb))), (0, 1, .ro false (di (r.2.i : Nat))), (0, 2, .ro false (di r.2.h))]) ∧ r.1.size ≤ 100 := ⟨_, t385 c2 true [[.str ⟨#[97, 32, 98]⟩], [.str ⟨#[115, 101, 118, 101, 110, 55, 55]⟩], [.str ⟨#[127]⟩], [.str ⟨#[126]⟩], [.str ⟨#[33]⟩]] (by simp) (by simp) HL, p385 c2 true [[.str ⟨#[97, 32, 98]⟩], [.str ⟨#[115, 101, 118, 101, 110, 55, 55]⟩], [.str ⟨#[127]⟩], [.str ⟨#[126]⟩], [.str ⟨#[33]⟩]] (by simp) (by simp) HL⟩
  repeat' (first
    | with_reducible (first | refine wp_seq ?_ | refine wp_blk ?_ | refine wp_skip ?_ | refine wp_exit ?_ | refine wp_ret ?_ | refine seqQ_norm ?_ | refine seqQ_ret ?_ | refine seqQ_exit ?_ | refine blkQ_norm ?_ | refine blkQ_ret ?_ | refine blkQ_exit ?_ | refine loopQ_norm ?_ | refine loopQ_exit ?_ | refine loopQ_ret ?_ | refine endQ_ret ?_ | refine endQ_norm ?_ | refine endE_ret ?_ | refine endE_norm ?_ | refine endI_ret ?_ | refine endI_norm ?_)
    | (with_reducible refine wp_regK fun K hK => ?_
       simp[hx, hv, gr, gz]
       repeat' (with_reducible first | refine hK _ ?_ | (refine psel ?_ ?_ <;> (intro hc; (try rw [Decidable.not_not] at hc); first | (exfalso; omega) | (try simp [hc, hx, hv, gr, gz]))))
       all_goals (clear hK; clear K))
    | (with_reducible refine wp_condE ?_
       refine ⟨_, rfl, ?_, ?_⟩ <;> (intro hc; (try simp at hc); (all_goals first | (exfalso; omega) | skip))))
  all_goals first | (exfalso; omega) | (refine ⟨_, by simp [pf393]; rfl, ?_⟩; refine ⟨(x, c2), ?_, ?_⟩; (focus (first | (simp; done) | (simp [*]; done))); (focus (exact q))) | (refine ⟨_, by simp [pf393]; rfl, ?_⟩; refine ⟨((⟨r.1, x.N, x.S⟩ : XVal), r.2), ?_, ?_⟩; (focus (first | (simp; done) | (simp [*]; done))); (focus (exact q))) | (refine ⟨_, by simp [pf393]; rfl, ?_⟩; refine ⟨((⟨x.Ty, (d383 c2).1, x.S⟩ : XVal), (d383 c2).2), ?_, ?_⟩; (focus (first | (simp; done) | (simp [*]; done))); (focus (exact q))) | (refine ⟨_, by simp [pf393]; rfl, ?_⟩; refine ⟨((⟨x.Ty, x.N, z.1⟩ : XVal), z.2), ?_, ?_⟩; (focus (first | (simp; done) | (simp [*]; done))); (focus (exact sz))) | skip

noncomputable def d393 (c : XCur)  : (XVal) × XCur := Classical.choose (d393_ex c)

@[simp] theorem t393 (c : XCur)  : Gw TT 393 [.ptr [.ro false (.sl 1 (c.b.map eb)), .ro false (di (c.i : Nat)), .ro false (di c.h)]] = some (.st [.ro false (di (d393 c).1.Ty), .ro false (di (d393 c).1.N), .ro false (.str (d393 c).1.S)], [(0, 0, .ro false (.sl 1 ((d393 c).2.b.map eb))), (0, 1, .ro false (di ((d393 c).2.i : Nat))), (0, 2, .ro false (di (d393 c).2.h))]) := (Classical.choose_spec (d393_ex c)).1

theorem p393 (c : XCur)  : (d393 c).1.S.size ≤ 100 := (Classical.choose_spec (d393_ex c)).2

theorem d399_ex (c : XCur)  : ∃ r : (List Int) × XCur, Gw TT 399 [.ptr [.ro false (.sl 1 (c.b.map eb)), .ro false (di (c.i : Nat)), .ro false (di c.h)]] = some (.one (.own (.sl 1 (r.1.map ei))), [(0, 0, .ro false (.sl 1 (r.2.b.map eb))), (0, 1, .ro false (di (r.2.i : Nat))), (0, 2, .ro false (di r.2.h))]) ∧ (r.1.length ≤ 3) := by
  suffices h0 : ∃ y, Gw TT 399 [.ptr [.ro false (.sl 1 (c.b.map eb)), .ro false (di (c.i : Nat)), .ro false (di c.h)]] = some y ∧ ∃ r : (List Int) × XCur, y = (.one (.own (.sl 1 (r.1.map ei))), [(0, 0, .ro false (.sl 1 (r.2.b.map eb))), (0, 1, .ro false (di (r.2.i : Nat))), (0, 2, .ro false (di r.2.h))]) ∧ (r.1.length ≤ 3) by
    obtain ⟨y, h1, r, rfl, h2⟩ := h0
    exact ⟨r, h1, h2⟩
  refine Gw_ofE (F := pf399) rfl rfl ?_
  show Wp _ pb399 _ _
  unfold pb399
  have q := p375 c 6
  obtain ⟨⟨v, c1⟩, hv⟩ : ∃ r, d375 c 6 = r := ⟨_, rfl⟩
  rw [hv] at q
  simp only at q
  have q2 := q.2.1 (by omega)
  rcases (by omega : v = 0 ∨ v = 1 ∨ v = 2 ∨ v = 3 ∨ v = 4 ∨ v = 5) with rfl | rfl | rfl | rfl | rfl | rfl
  · repeat' (first
      | with_reducible (first | refine wp_seq ?_ | refine wp_blk ?_ | refine wp_skip ?_ | refine wp_exit ?_ | refine wp_ret ?_ | refine seqQ_norm ?_ | refine seqQ_ret ?_ | refine seqQ_exit ?_ | refine blkQ_norm ?_ | refine blkQ_ret ?_ | refine blkQ_exit ?_ | refine loopQ_norm ?_ | refine loopQ_exit ?_ | refine loopQ_ret ?_ | refine endQ_ret ?_ | refine endQ_norm ?_ | refine endE_ret ?_ | refine endE_norm ?_ | refine endI_ret ?_ | refine endI_norm ?_)
      | (with_reducible refine wp_regK fun K hK => ?_
         simp[hv]
         repeat' (with_reducible first | refine hK _ ?_ | (refine psel ?_ ?_ <;> (intro hc; (try rw [Decidable.not_not] at hc); first | (exfalso; omega) | (try simp [hc, hv]))))
         all_goals (clear hK; clear K))
      | (with_reducible refine wp_condE ?_
         refine ⟨_, rfl, ?_, ?_⟩ <;> (intro hc; (try simp at hc); (all_goals first | (exfalso; omega) | skip))))
    all_goals (refine ⟨_, by simp [pf399]; rfl, ?_⟩; refine ⟨(([1] : List Int), c1), ?_, ?_⟩; (focus (first | (simp; done) | (simp [*]; done))); (focus (simp)))
  · repeat' (first
      | with_reducible (first | refine wp_seq ?_ | refine wp_blk ?_ | refine wp_skip ?_ | refine wp_exit ?_ | refine wp_ret ?_ | refine seqQ_norm ?_ | refine seqQ_ret ?_ | refine seqQ_exit ?_ | refine blkQ_norm ?_ | refine blkQ_ret ?_ | refine blkQ_exit ?_ | refine loopQ_norm ?_ | refine loopQ_exit ?_ | refine loopQ_ret ?_ | refine endQ_ret ?_ | refine endQ_norm ?_ | refine endE_ret ?_ | refine endE_norm ?_ | refine endI_ret ?_ | refine endI_norm ?_)
      | (with_reducible refine wp_regK fun K hK => ?_
         simp[hv]
         repeat' (with_reducible first | refine hK _ ?_ | (refine psel ?_ ?_ <;> (intro hc; (try rw [Decidable.not_not] at hc); first | (exfalso; omega) | (try simp [hc, hv]))))
         all_goals (clear hK; clear K))
      | (with_reducible refine wp_condE ?_
         refine ⟨_, rfl, ?_, ?_⟩ <;> (intro hc; (try simp at hc); (all_goals first | (exfalso; omega) | skip))))
    all_goals (refine ⟨_, by simp [pf399]; rfl, ?_⟩; refine ⟨(([2] : List Int), c1), ?_, ?_⟩; (focus (first | (simp; done) | (simp [*]; done))); (focus (simp)))
  · repeat' (first
      | with_reducible (first | refine wp_seq ?_ | refine wp_blk ?_ | refine wp_skip ?_ | refine wp_exit ?_ | refine wp_ret ?_ | refine seqQ_norm ?_ | refine seqQ_ret ?_ | refine seqQ_exit ?_ | refine blkQ_norm ?_ | refine blkQ_ret ?_ | refine blkQ_exit ?_ | refine loopQ_norm ?_ | refine loopQ_exit ?_ | refine loopQ_ret ?_ | refine endQ_ret ?_ | refine endQ_norm ?_ | refine endE_ret ?_ | refine endE_norm ?_ | refine endI_ret ?_ | refine endI_norm ?_)
      | (with_reducible refine wp_regK fun K hK => ?_
         simp[hv]
         repeat' (with_reducible first | refine hK _ ?_ | (refine psel ?_ ?_ <;> (intro hc; (try rw [Decidable.not_not] at hc); first | (exfalso; omega) | (try simp [hc, hv]))))
         all_goals (clear hK; clear K))
      | (with_reducible refine wp_condE ?_
         refine ⟨_, rfl, ?_, ?_⟩ <;> (intro hc; (try simp at hc); (all_goals first | (exfalso; omega) | skip))))
    all_goals (refine ⟨_, by simp [pf399]; rfl, ?_⟩; refine ⟨(([1, 2] : List Int), c1), ?_, ?_⟩; (focus (first | (simp; done) | (simp [*]; done))); (focus (simp)))
  · repeat' (first
      | with_reducible (first | refine wp_seq ?_ | refine wp_blk ?_ | refine wp_skip ?_ | refine wp_exit ?_ | refine wp_ret ?_ | refine seqQ_norm ?_ | refine seqQ_ret ?_ | refine seqQ_exit ?_ | refine blkQ_norm ?_ | refine blkQ_ret ?_ | refine blkQ_exit ?_ | refine loopQ_norm ?_ | refine loopQ_exit ?_ | refine loopQ_ret ?_ | refine endQ_ret ?_ | refine endQ_norm ?_ | refine endE_ret ?_ | refine endE_norm ?_ | refine endI_ret ?_ | refine endI_norm ?_)
      | (with_reducible refine wp_regK fun K hK => ?_
         simp[hv]
         repeat' (with_reducible first | refine hK _ ?_ | (refine psel ?_ ?_ <;> (intro hc; (try rw [Decidable.not_not] at hc); first | (exfalso; omega) | (try simp [hc, hv]))))
         all_goals (clear hK; clear K))
      | (with_reducible refine wp_condE ?_
         refine ⟨_, rfl, ?_, ?_⟩ <;> (intro hc; (try simp at hc); (all_goals first | (exfalso; omega) | skip))))
    all_goals (refine ⟨_, by simp [pf399]; rfl, ?_⟩; refine ⟨(([1, 1] : List Int), c1), ?_, ?_⟩; (focus (first | (simp; done) | (simp [*]; done))); (focus (simp)))
  · repeat' (first
      | with_reducible (first | refine wp_seq ?_ | refine wp_blk ?_ | refine wp_skip ?_ | refine wp_exit ?_ | refine wp_ret ?_ | refine seqQ_norm ?_ | refine seqQ_ret ?_ | refine seqQ_exit ?_ | refine blkQ_norm ?_ | refine blkQ_ret ?_ | refine blkQ_exit ?_ | refine loopQ_norm ?_ | refine loopQ_exit ?_ | refine loopQ_ret ?_ | refine endQ_ret ?_ | refine endQ_norm ?_ | refine endE_ret ?_ | refine endE_norm ?_ | refine endI_ret ?_ | refine endI_norm ?_)
      | (with_reducible refine wp_regK fun K hK => ?_
         simp[hv]
         repeat' (with_reducible first | refine hK _ ?_ | (refine psel ?_ ?_ <;> (intro hc; (try rw [Decidable.not_not] at hc); first | (exfalso; omega) | (try simp [hc, hv]))))
         all_goals (clear hK; clear K))
      | (with_reducible refine wp_condE ?_
         refine ⟨_, rfl, ?_, ?_⟩ <;> (intro hc; (try simp at hc); (all_goals first | (exfalso; omega) | skip))))
    all_goals (refine ⟨_, by simp [pf399]; rfl, ?_⟩; refine ⟨(([2, 1] : List Int), c1), ?_, ?_⟩; (focus (first | (simp; done) | (simp [*]; done))); (focus (simp)))
  · repeat' (first
      | with_reducible (first | refine wp_seq ?_ | refine wp_blk ?_ | refine wp_skip ?_ | refine wp_exit ?_ | refine wp_ret ?_ | refine seqQ_norm ?_ | refine seqQ_ret ?_ | refine seqQ_exit ?_ | refine blkQ_norm ?_ | refine blkQ_ret ?_ | refine blkQ_exit ?_ | refine loopQ_norm ?_ | refine loopQ_exit ?_ | refine loopQ_ret ?_ | refine endQ_ret ?_ | refine endQ_norm ?_ | refine endE_ret ?_ | refine endE_norm ?_ | refine endI_ret ?_ | refine endI_norm ?_)
      | (with_reducible refine wp_regK fun K hK => ?_
         simp[hv]
         repeat' (with_reducible first | refine hK _ ?_ | (refine psel ?_ ?_ <;> (intro hc; (try rw [Decidable.not_not] at hc); first | (exfalso; omega) | (try simp [hc, hv]))))
         all_goals (clear hK; clear K))
      | (with_reducible refine wp_condE ?_
         refine ⟨_, rfl, ?_, ?_⟩ <;> (intro hc; (try simp at hc); (all_goals first | (exfalso; omega) | skip))))
    all_goals (refine ⟨_, by simp [pf399]; rfl, ?_⟩; refine ⟨(([1, 2, 1] : List Int), c1), ?_, ?_⟩; (focus (first | (simp; done) | (simp [*]; done))); (focus (simp)))

noncomputable def d399 (c : XCur)  : (List Int) × XCur := Classical.choose (d399_ex c)

@[simp] theorem t399 (c : XCur)  : Gw TT 399 [.ptr [.ro false (.sl 1 (c.b.map eb)), .ro false (di (c.i : Nat)), .ro false (di c.h)]] = some (.one (.own (.sl 1 ((d399 c).1.map ei))), [(0, 0, .ro false (.sl 1 ((d399 c).2.b.map eb))), (0, 1, .ro false (di ((d399 c).2.i : Nat))), (0, 2, .ro false (di (d399 c).2.h))]) := (Classical.choose_spec (d399_ex c)).1

theorem p399 (c : XCur)  : (d399 c).1.length ≤ 3 := (Classical.choose_spec (d399_ex c)).2

theorem d401_ex (c : XCur) (k0 : Bool) (cols : List Int) (h : cols.length ≤ 1000) : ∃ r : (List XVal) × XCur, Gw TT 401 [.ptr [.ro false (.sl 1 (c.b.map eb)), .ro false (di (c.i : Nat)), .ro false (di c.h)], .one (.ro k0 (.sl 1 (cols.map ei)))] = some (.one (.own (.sl 3 (r.1.map XVal.e))), [(0, 0, .ro false (.sl 1 (r.2.b.map eb))), (0, 1, .ro false (di (r.2.i : Nat))), (0, 2, .ro false (di r.2.h))]) ∧ (r.1.length ≤ 1000 ∧ XVal.sms r.1) := by
  suffices h0 : ∃ y, Gw TT 401 [.ptr [.ro false (.sl 1 (c.b.map eb)), .ro false (di (c.i : Nat)), .ro false (di c.h)], .one (.ro k0 (.sl 1 (cols.map ei)))] = some y ∧ ∃ r : (List XVal) × XCur, y = (.one (.own (.sl 3 (r.1.map XVal.e))), [(0, 0, .ro false (.sl 1 (r.2.b.map eb))), (0, 1, .ro false (di (r.2.i : Nat))), (0, 2, .ro false (di r.2.h))]) ∧ (r.1.length ≤ 1000 ∧ XVal.sms r.1) by
    obtain ⟨y, h1, r, rfl, h2⟩ := h0
    exact ⟨r, h1, h2⟩
  refine Gw_ofE (F := pf401) rfl rfl ?_
  show Wp _ pb401 _ _
  unfold pb401
  repeat' (first
    | with_reducible (first | refine wp_seq ?_ | refine wp_blk ?_ | refine wp_skip ?_ | refine wp_exit ?_ | refine wp_ret ?_ | refine seqQ_norm ?_ | refine seqQ_ret ?_ | refine seqQ_exit ?_ | refine blkQ_norm ?_ | refine blkQ_ret ?_ | refine blkQ_exit ?_ | refine loopQ_norm ?_ | refine loopQ_exit ?_ | refine loopQ_ret ?_ | refine endQ_ret ?_ | refine endQ_norm ?_ | refine endE_ret ?_ | refine endE_norm ?_ | refine endI_ret ?_ | refine endI_norm ?_)
    | (with_reducible refine wp_regK fun K hK => ?_
       simp
       repeat' (with_reducible first | refine hK _ ?_ | (refine psel ?_ ?_ <;> (intro hc; (try rw [Decidable.not_not] at hc); first | (exfalso; omega) | (try simp [hc]))))
       all_goals (clear hK; clear K))
    | (with_reducible refine wp_condE ?_
       refine ⟨_, rfl, ?_, ?_⟩ <;> (intro hc; (try simp at hc); (all_goals first | (exfalso; omega) | skip))))
  refine wp_loopI (σ := List Int × List Int × List XVal × XCur) (fun s => [(0, AV.bx 0 0, some (Rt.bx [.ro false (.sl 1 (s.2.2.2.b.map eb)), .ro false (di (s.2.2.2.i : Nat)), .ro false (di s.2.2.2.h)])), (1, AV.v k0 (D.sl 1 (cols.map ei)), none), (5, AV.pl 5 0 [], some (Rt.vir [C.own (D.sl 3 (s.2.2.1.map XVal.e))])), (6, AV.v false (di ((s.1.length : Nat) : Int)), none)]) (fun s => cols = s.1 ++ s.2.1 ∧ s.2.2.1.length = s.1.length ∧ XVal.sms s.2.2.1) (fun s => s.2.1.length) ([], cols, [], c) (by simp) ⟨rfl, rfl, fun y hy => by simp at hy⟩ ?_
  rintro ⟨pre, rest, acc, c1⟩ ⟨h1, h2, h3⟩
  simp only at h1 h2 h3
  subst h1
  simp only [List.length_append, List.length_cons] at h
  rcases rest with _ | ⟨d, rest⟩
  · unfold pl401_0
    repeat' (first
      | with_reducible (first | refine wp_seq ?_ | refine wp_blk ?_ | refine wp_skip ?_ | refine wp_exit ?_ | refine wp_ret ?_ | refine seqQ_norm ?_ | refine seqQ_ret ?_ | refine seqQ_exit ?_ | refine blkQ_norm ?_ | refine blkQ_ret ?_ | refine blkQ_exit ?_ | refine loopQ_norm ?_ | refine loopQ_exit ?_ | refine loopQ_ret ?_ | refine endQ_ret ?_ | refine endQ_norm ?_ | refine endE_ret ?_ | refine endE_norm ?_ | refine endI_ret ?_ | refine endI_norm ?_)
      | (with_reducible refine wp_regK fun K hK => ?_
         simp
         repeat' (with_reducible first | refine hK _ ?_ | (refine psel ?_ ?_ <;> (intro hc; (try rw [Decidable.not_not] at hc); first | (exfalso; omega) | (try simp [hc]))))
         all_goals (clear hK; clear K))
      | (with_reducible refine wp_condE ?_
         refine ⟨_, rfl, ?_, ?_⟩ <;> (intro hc; (try simp at hc); (all_goals first | (exfalso; omega) | skip))))
    all_goals first | (exfalso; omega) | (refine ⟨_, by simp [pf401]; rfl, ?_⟩; refine ⟨(acc, c1), ?_, ?_, ?_⟩; (focus (first | (simp; done) | (simp [*]; done))); (focus (simp only; simp only [List.length_nil] at h; omega)); (focus (exact h3)))
  · unfold pl401_0
    simp only [List.length_cons] at h
    have hw : IntKind.wrap .i64 ((pre.length : Int) + 1) = (pre.length : Int) + 1 := wrap_i64 (by omega) (by omega)
    have hq1 : (acc.length + 1) * 32 ≤ 70368744177664 := by omega
    have a1 : XVal.sms (acc ++ [(d395 c1).1]) := fun y hy => by
      rcases List.mem_append.1 hy with hy | hy
      · exact h3 y hy
      · rw [List.mem_singleton.1 hy]; have := p395 c1; simp only [XVal.sm]; omega
    have a2 : XVal.sms (acc ++ [(d396 c1).1]) := fun y hy => by
      rcases List.mem_append.1 hy with hy | hy
      · exact h3 y hy
      · rw [List.mem_singleton.1 hy]; have := p396 c1; simp only [XVal.sm]; omega
    by_cases e : d = 1
    · repeat' (first
        | with_reducible (first | refine wp_seq ?_ | refine wp_blk ?_ | refine wp_skip ?_ | refine wp_exit ?_ | refine wp_ret ?_ | refine seqQ_norm ?_ | refine seqQ_ret ?_ | refine seqQ_exit ?_ | refine blkQ_norm ?_ | refine blkQ_ret ?_ | refine blkQ_exit ?_ | refine loopQ_norm ?_ | refine loopQ_exit ?_ | refine loopQ_ret ?_ | refine endQ_ret ?_ | refine endQ_norm ?_ | refine endE_ret ?_ | refine endE_norm ?_ | refine endI_ret ?_ | refine endI_norm ?_)
        | (with_reducible refine wp_regK fun K hK => ?_
           simp[hw, hq1, e]
           repeat' (with_reducible first | refine hK _ ?_ | (refine psel ?_ ?_ <;> (intro hc; (try rw [Decidable.not_not] at hc); first | (exfalso; omega) | (try simp [hc, hw, hq1, e]))))
           all_goals (clear hK; clear K))
        | (with_reducible refine wp_condE ?_
           refine ⟨_, rfl, ?_, ?_⟩ <;> (intro hc; (try simp at hc); (all_goals first | (exfalso; omega) | skip))))
      all_goals first | (exfalso; omega) | exact ⟨(pre ++ [d], rest, acc ++ [(d395 c1).1], (d395 c1).2), by simp [e], ⟨by simp, by simp [h2], a1⟩, by simp⟩ | skip
    · repeat' (first
        | with_reducible (first | refine wp_seq ?_ | refine wp_blk ?_ | refine wp_skip ?_ | refine wp_exit ?_ | refine wp_ret ?_ | refine seqQ_norm ?_ | refine seqQ_ret ?_ | refine seqQ_exit ?_ | refine blkQ_norm ?_ | refine blkQ_ret ?_ | refine blkQ_exit ?_ | refine loopQ_norm ?_ | refine loopQ_exit ?_ | refine loopQ_ret ?_ | refine endQ_ret ?_ | refine endQ_norm ?_ | refine endE_ret ?_ | refine endE_norm ?_ | refine endI_ret ?_ | refine endI_norm ?_)
        | (with_reducible refine wp_regK fun K hK => ?_
           simp[hw, hq1, e]
           repeat' (with_reducible first | refine hK _ ?_ | (refine psel ?_ ?_ <;> (intro hc; (try rw [Decidable.not_not] at hc); first | (exfalso; omega) | (try simp [hc, hw, hq1, e]))))
           all_goals (clear hK; clear K))
        | (with_reducible refine wp_condE ?_
           refine ⟨_, rfl, ?_, ?_⟩ <;> (intro hc; (try simp at hc); (all_goals first | (exfalso; omega) | skip))))
      all_goals first | (exfalso; omega) | exact ⟨(pre ++ [d], rest, acc ++ [(d396 c1).1], (d396 c1).2), by simp, ⟨by simp, by simp [h2], a2⟩, by simp⟩ | skip

noncomputable def d401 (c : XCur) (k0 : Bool) (cols : List Int) (h : cols.length ≤ 1000) : (List XVal) × XCur := Classical.choose (d401_ex c k0 cols h)

@[simp] theorem t401 (c : XCur) (k0 : Bool) (cols : List Int) (h : cols.length ≤ 1000) : Gw TT 401 [.ptr [.ro false (.sl 1 (c.b.map eb)), .ro false (di (c.i : Nat)), .ro false (di c.h)], .one (.ro k0 (.sl 1 (cols.map ei)))] = some (.one (.own (.sl 3 ((d401 c k0 cols h).1.map XVal.e))), [(0, 0, .ro false (.sl 1 ((d401 c k0 cols h).2.b.map eb))), (0, 1, .ro false (di ((d401 c k0 cols h).2.i : Nat))), (0, 2, .ro false (di (d401 c k0 cols h).2.h))]) := (Classical.choose_spec (d401_ex c k0 cols h)).1

theorem p401 (c : XCur) (k0 : Bool) (cols : List Int) (h : cols.length ≤ 1000) : (d401 c k0 cols h).1.length ≤ 1000 ∧ XVal.sms (d401 c k0 cols h).1 := (Classical.choose_spec (d401_ex c k0 cols h)).2

theorem d398_ex (c : XCur) (k0 : Bool) (cols : List Int) (h : cols.length ≤ 1000) : ∃ r : (List XVal) × XCur, Gw TT 398 [.ptr [.ro false (.sl 1 (c.b.map eb)), .ro false (di (c.i : Nat)), .ro false (di c.h)], .one (.ro k0 (.sl 1 (cols.map ei)))] = some (.one (.own (.sl 3 (r.1.map XVal.e))), [(0, 0, .ro false (.sl 1 (r.2.b.map eb))), (0, 1, .ro false (di (r.2.i : Nat))), (0, 2, .ro false (di r.2.h))]) ∧ (r.1.length ≤ 1001 ∧ XVal.sms r.1) := by
  suffices h0 : ∃ y, Gw TT 398 [.ptr [.ro false (.sl 1 (c.b.map eb)), .ro false (di (c.i : Nat)), .ro false (di c.h)], .one (.ro k0 (.sl 1 (cols.map ei)))] = some y ∧ ∃ r : (List XVal) × XCur, y = (.one (.own (.sl 3 (r.1.map XVal.e))), [(0, 0, .ro false (.sl 1 (r.2.b.map eb))), (0, 1, .ro false (di (r.2.i : Nat))), (0, 2, .ro false (di r.2.h))]) ∧ (r.1.length ≤ 1001 ∧ XVal.sms r.1) by
    obtain ⟨y, h1, r, rfl, h2⟩ := h0
    exact ⟨r, h1, h2⟩
  refine Gw_ofE (F := pf398) rfl rfl ?_
  show Wp _ pb398 _ _
  unfold pb398
  have q := p401 c k0 cols h
  obtain ⟨⟨l, c1⟩, hl⟩ : ∃ r, d401 c k0 cols h = r := ⟨_, rfl⟩
  rw [hl] at q
  simp only at q
  obtain ⟨q1, q2⟩ := q
  obtain ⟨⟨v, c2⟩, hv⟩ : ∃ r, d375 c1 8 = r := ⟨_, rfl⟩
  have hq1 : (l.length + 1) * 32 ≤ 70368744177664 := by omega
  have p1 := p393 c2
  have a1 : XVal.sms (l ++ [(d393 c2).1]) := fun y hy => by
    rcases List.mem_append.1 hy with hy | hy
    · exact q2 y hy
    · rw [List.mem_singleton.1 hy]; simp only [XVal.sm]; omega
  rcases l with _ | ⟨x, l⟩
  · repeat' (first
      | with_reducible (first | refine wp_seq ?_ | refine wp_blk ?_ | refine wp_skip ?_ | refine wp_exit ?_ | refine wp_ret ?_ | refine seqQ_norm ?_ | refine seqQ_ret ?_ | refine seqQ_exit ?_ | refine blkQ_norm ?_ | refine blkQ_ret ?_ | refine blkQ_exit ?_ | refine loopQ_norm ?_ | refine loopQ_exit ?_ | refine loopQ_ret ?_ | refine endQ_ret ?_ | refine endQ_norm ?_ | refine endE_ret ?_ | refine endE_norm ?_ | refine endI_ret ?_ | refine endI_norm ?_)
      | (with_reducible refine wp_regK fun K hK => ?_
         simp[h, hl, hv, hq1]
         repeat' (with_reducible first | refine hK _ ?_ | (refine psel ?_ ?_ <;> (intro hc; (try rw [Decidable.not_not] at hc); first | (exfalso; omega) | (try simp [hc, h, hl, hv, hq1]))))
         all_goals (clear hK; clear K))
      | (with_reducible refine wp_condE ?_
         refine ⟨_, rfl, ?_, ?_⟩ <;> (intro hc; (try simp at hc); (all_goals first | (exfalso; omega) | skip))))
    all_goals first | (exfalso; omega) | (refine ⟨_, by simp [pf398]; rfl, ?_⟩; refine ⟨([(d393 c2).1], (d393 c2).2), ?_, ?_, ?_⟩; (focus (first | (simp; done) | (simp [*]; done))); (focus (simp)); (focus (simpa using a1))) | (refine ⟨_, by simp [pf398]; rfl, ?_⟩; refine ⟨([], c2), ?_, ?_, ?_⟩; (focus (first | (simp; done) | (simp [*]; done))); (focus (simp)); (focus (exact q2))) | skip
  · simp only [List.length_cons] at hq1
    have a2 : XVal.sms ((d393 c2).1 :: l) := fun y hy => by
      rcases List.mem_cons.1 hy with rfl | hy
      · simp only [XVal.sm]; omega
      · exact q2 y (List.mem_cons_of_mem _ hy)
    repeat' (first
      | with_reducible (first | refine wp_seq ?_ | refine wp_blk ?_ | refine wp_skip ?_ | refine wp_exit ?_ | refine wp_ret ?_ | refine seqQ_norm ?_ | refine seqQ_ret ?_ | refine seqQ_exit ?_ | refine blkQ_norm ?_ | refine blkQ_ret ?_ | refine blkQ_exit ?_ | refine loopQ_norm ?_ | refine loopQ_exit ?_ | refine loopQ_ret ?_ | refine endQ_ret ?_ | refine endQ_norm ?_ | refine endE_ret ?_ | refine endE_norm ?_ | refine endI_ret ?_ | refine endI_norm ?_)
      | (with_reducible refine wp_regK fun K hK => ?_
         simp[h, hl, hv, hq1]
         repeat' (with_reducible first | refine hK _ ?_ | (refine psel ?_ ?_ <;> (intro hc; (try rw [Decidable.not_not] at hc); first | (exfalso; omega) | (try simp [hc, h, hl, hv, hq1]))))
         all_goals (clear hK; clear K))
      | (with_reducible refine wp_condE ?_
         refine ⟨_, rfl, ?_, ?_⟩ <;> (intro hc; (try simp at hc); (all_goals first | (exfalso; omega) | skip))))
    all_goals first | (exfalso; omega) | (refine ⟨_, by simp [pf398]; rfl, ?_⟩; refine ⟨(x :: l ++ [(d393 c2).1], (d393 c2).2), ?_, ?_, ?_⟩; (focus (first | (simp; done) | (simp [*]; done))); (focus (simp only [List.length_append, List.length_cons, List.length_nil] at q1 ⊢; omega)); (focus (exact a1))) | (refine ⟨_, by simp [pf398]; rfl, ?_⟩; refine ⟨((d393 c2).1 :: l, (d393 c2).2), ?_, ?_, ?_⟩; (focus (first | (simp; done) | (simp [*]; done))); (focus (simp only [List.length_cons] at q1 ⊢; omega)); (focus (exact a2))) | (refine ⟨_, by simp [pf398]; rfl, ?_⟩; refine ⟨(x :: l, c2), ?_, ?_, ?_⟩; (focus (first | (simp; done) | (simp [*]; done))); (focus (simp only; omega)); (focus (exact q2))) | skip

noncomputable def d398 (c : XCur) (k0 : Bool) (cols : List Int) (h : cols.length ≤ 1000) : (List XVal) × XCur := Classical.choose (d398_ex c k0 cols h)

@[simp] theorem t398 (c : XCur) (k0 : Bool) (cols : List Int) (h : cols.length ≤ 1000) : Gw TT 398 [.ptr [.ro false (.sl 1 (c.b.map eb)), .ro false (di (c.i : Nat)), .ro false (di c.h)], .one (.ro k0 (.sl 1 (cols.map ei)))] = some (.one (.own (.sl 3 ((d398 c k0 cols h).1.map XVal.e))), [(0, 0, .ro false (.sl 1 ((d398 c k0 cols h).2.b.map eb))), (0, 1, .ro false (di ((d398 c k0 cols h).2.i : Nat))), (0, 2, .ro false (di (d398 c k0 cols h).2.h))]) := (Classical.choose_spec (d398_ex c k0 cols h)).1

theorem p398 (c : XCur) (k0 : Bool) (cols : List Int) (h : cols.length ≤ 1000) : (d398 c k0 cols h).1.length ≤ 1001 ∧ XVal.sms (d398 c k0 cols h).1 := (Classical.choose_spec (d398_ex c k0 cols h)).2

def chunkNewF (n : Int) : List XSlot := List.replicate (if 1 ≤ n ∧ n ≤ 4 then n.toNat else 1) ⟨0, []⟩

theorem chunkNewF_len (n : Int) : 1 ≤ (chunkNewF n).length ∧ (chunkNewF n).length ≤ 4 := by
  unfold chunkNewF; simp only [List.length_replicate]; split <;> omega

theorem chunkNewF_sms (n : Int) : XSlot.sms (chunkNewF n) := by
  intro y hy
  obtain ⟨_, rfl⟩ := List.mem_replicate.1 hy
  simp [XSlot.sm, XVal.sms]

@[simp] theorem t9 (n : Int) : Gw TT 9 [vi n] = some (.st [.ro false (di 0), .own (.sl 2 ((chunkNewF n).map XSlot.e))], []) := by
  refine Gw_of (F := pf9) rfl rfl ?_
  show Wp _ pb9 _ _
  unfold pb9
  by_cases hb : 1 ≤ n ∧ n ≤ 4
  · obtain ⟨hb0, hb1⟩ := hb
    have hb2 : 0 ≤ n := by omega
    have hb3 : n.toNat * 32 ≤ 140737488355328 := by omega
    repeat' (first
      | with_reducible (first | refine wp_seq ?_ | refine wp_blk ?_ | refine wp_skip ?_ | refine wp_exit ?_ | refine wp_ret ?_ | refine seqQ_norm ?_ | refine seqQ_ret ?_ | refine seqQ_exit ?_ | refine blkQ_norm ?_ | refine blkQ_ret ?_ | refine blkQ_exit ?_ | refine loopQ_norm ?_ | refine loopQ_exit ?_ | refine loopQ_ret ?_ | refine endQ_ret ?_ | refine endQ_norm ?_ | refine endE_ret ?_ | refine endE_norm ?_ | refine endI_ret ?_ | refine endI_norm ?_)
      | (with_reducible refine wp_regK fun K hK => ?_
         simp[hb0, hb1, hb2, hb3]
         repeat' (with_reducible first | refine hK _ ?_ | (refine psel ?_ ?_ <;> (intro hc; (try rw [Decidable.not_not] at hc); first | (exfalso; omega) | (try simp [hc, hb0, hb1, hb2, hb3]))))
         all_goals (clear hK; clear K))
      | (with_reducible refine wp_condE ?_
         refine ⟨_, rfl, ?_, ?_⟩ <;> (intro hc; (try simp at hc); (all_goals first | (exfalso; omega) | skip))))
    all_goals first | (simp [pf9, chunkNewF, hb0, hb1]; done) | (exfalso; omega)
  · repeat' (first
      | with_reducible (first | refine wp_seq ?_ | refine wp_blk ?_ | refine wp_skip ?_ | refine wp_exit ?_ | refine wp_ret ?_ | refine seqQ_norm ?_ | refine seqQ_ret ?_ | refine seqQ_exit ?_ | refine blkQ_norm ?_ | refine blkQ_ret ?_ | refine blkQ_exit ?_ | refine loopQ_norm ?_ | refine loopQ_exit ?_ | refine loopQ_ret ?_ | refine endQ_ret ?_ | refine endQ_norm ?_ | refine endE_ret ?_ | refine endE_norm ?_ | refine endI_ret ?_ | refine endI_norm ?_)
      | (with_reducible refine wp_regK fun K hK => ?_
         simp[hb]
         repeat' (with_reducible first | refine hK _ ?_ | (refine psel ?_ ?_ <;> (intro hc; (try rw [Decidable.not_not] at hc); first | (exfalso; omega) | (try simp [hc, hb]))))
         all_goals (clear hK; clear K))
      | (with_reducible refine wp_condE ?_
         refine ⟨_, rfl, ?_, ?_⟩ <;> (intro hc; (try simp at hc); (all_goals first | (exfalso; omega) | skip))))
    all_goals first | (simp [pf9, chunkNewF, hb]; done) | (exfalso; omega)

@[simp] theorem t265 (n : Int) : Gw TT 265 [vi n] = some (.st [.ro false (di 0), .own (.sl 2 ((chunkNewF n).map XSlot.e))], []) := by
  refine Gw_of (F := pf265) rfl rfl ?_
  show Wp _ pb265 _ _
  unfold pb265
  by_cases hb : 1 ≤ n ∧ n ≤ 4
  · rcases (by omega : n = 1 ∨ n = 2 ∨ n = 3 ∨ n = 4) with rfl | rfl | rfl | rfl
    all_goals skip
    · repeat' (first
        | with_reducible (first | refine wp_seq ?_ | refine wp_blk ?_ | refine wp_skip ?_ | refine wp_exit ?_ | refine wp_ret ?_ | refine seqQ_norm ?_ | refine seqQ_ret ?_ | refine seqQ_exit ?_ | refine blkQ_norm ?_ | refine blkQ_ret ?_ | refine blkQ_exit ?_ | refine loopQ_norm ?_ | refine loopQ_exit ?_ | refine loopQ_ret ?_ | refine endQ_ret ?_ | refine endQ_norm ?_ | refine endE_ret ?_ | refine endE_norm ?_ | refine endI_ret ?_ | refine endI_norm ?_)
        | (with_reducible refine wp_loop (c := pl265_0) ?_
           conv => arg 2; unfold pl265_0)
        | (with_reducible refine wp_regK fun K hK => ?_
           simp[List.length_nil]
           repeat' (with_reducible first | refine hK _ ?_ | (refine psel ?_ ?_ <;> (intro hc; (try rw [Decidable.not_not] at hc); first | (exfalso; omega) | (try simp [hc, List.length_nil]))))
           all_goals (clear hK; clear K))
        | (with_reducible refine wp_condE ?_
           refine ⟨_, rfl, ?_, ?_⟩ <;> (intro hc; (try simp at hc); (all_goals first | (exfalso; omega) | skip))))
      all_goals first | (simp [pf265, chunkNewF, List.replicate]; done) | (exfalso; omega)
    · repeat' (first
        | with_reducible (first | refine wp_seq ?_ | refine wp_blk ?_ | refine wp_skip ?_ | refine wp_exit ?_ | refine wp_ret ?_ | refine seqQ_norm ?_ | refine seqQ_ret ?_ | refine seqQ_exit ?_ | refine blkQ_norm ?_ | refine blkQ_ret ?_ | refine blkQ_exit ?_ | refine loopQ_norm ?_ | refine loopQ_exit ?_ | refine loopQ_ret ?_ | refine endQ_ret ?_ | refine endQ_norm ?_ | refine endE_ret ?_ | refine endE_norm ?_ | refine endI_ret ?_ | refine endI_norm ?_)
        | (with_reducible refine wp_loop (c := pl265_0) ?_
           conv => arg 2; unfold pl265_0)
        | (with_reducible refine wp_regK fun K hK => ?_
           simp[List.length_nil]
           repeat' (with_reducible first | refine hK _ ?_ | (refine psel ?_ ?_ <;> (intro hc; (try rw [Decidable.not_not] at hc); first | (exfalso; omega) | (try simp [hc, List.length_nil]))))
           all_goals (clear hK; clear K))
        | (with_reducible refine wp_condE ?_
           refine ⟨_, rfl, ?_, ?_⟩ <;> (intro hc; (try simp at hc); (all_goals first | (exfalso; omega) | skip))))
      all_goals first | (simp [pf265, chunkNewF, List.replicate]; done) | (exfalso; omega)
    · repeat' (first
        | with_reducible (first | refine wp_seq ?_ | refine wp_blk ?_ | refine wp_skip ?_ | refine wp_exit ?_ | refine wp_ret ?_ | refine seqQ_norm ?_ | refine seqQ_ret ?_ | refine seqQ_exit ?_ | refine blkQ_norm ?_ | refine blkQ_ret ?_ | refine blkQ_exit ?_ | refine loopQ_norm ?_ | refine loopQ_exit ?_ | refine loopQ_ret ?_ | refine endQ_ret ?_ | refine endQ_norm ?_ | refine endE_ret ?_ | refine endE_norm ?_ | refine endI_ret ?_ | refine endI_norm ?_)
        | (with_reducible refine wp_loop (c := pl265_0) ?_
           conv => arg 2; unfold pl265_0)
        | (with_reducible refine wp_regK fun K hK => ?_
           simp[List.length_nil]
           repeat' (with_reducible first | refine hK _ ?_ | (refine psel ?_ ?_ <;> (intro hc; (try rw [Decidable.not_not] at hc); first | (exfalso; omega) | (try simp [hc, List.length_nil]))))
           all_goals (clear hK; clear K))
        | (with_reducible refine wp_condE ?_
           refine ⟨_, rfl, ?_, ?_⟩ <;> (intro hc; (try simp at hc); (all_goals first | (exfalso; omega) | skip))))
      all_goals first | (simp [pf265, chunkNewF, List.replicate]; done) | (exfalso; omega)
    · repeat' (first
        | with_reducible (first | refine wp_seq ?_ | refine wp_blk ?_ | refine wp_skip ?_ | refine wp_exit ?_ | refine wp_ret ?_ | refine seqQ_norm ?_ | refine seqQ_ret ?_ | refine seqQ_exit ?_ | refine blkQ_norm ?_ | refine blkQ_ret ?_ | refine blkQ_exit ?_ | refine loopQ_norm ?_ | refine loopQ_exit ?_ | refine loopQ_ret ?_ | refine endQ_ret ?_ | refine endQ_norm ?_ | refine endE_ret ?_ | refine endE_norm ?_ | refine endI_ret ?_ | refine endI_norm ?_)
        | (with_reducible refine wp_loop (c := pl265_0) ?_
           conv => arg 2; unfold pl265_0)
        | (with_reducible refine wp_regK fun K hK => ?_
           simp[List.length_nil]
           repeat' (with_reducible first | refine hK _ ?_ | (refine psel ?_ ?_ <;> (intro hc; (try rw [Decidable.not_not] at hc); first | (exfalso; omega) | (try simp [hc, List.length_nil]))))
           all_goals (clear hK; clear K))
        | (with_reducible refine wp_condE ?_
           refine ⟨_, rfl, ?_, ?_⟩ <;> (intro hc; (try simp at hc); (all_goals first | (exfalso; omega) | skip))))
      all_goals first | (simp [pf265, chunkNewF, List.replicate]; done) | (exfalso; omega)
  · repeat' (first
      | with_reducible (first | refine wp_seq ?_ | refine wp_blk ?_ | refine wp_skip ?_ | refine wp_exit ?_ | refine wp_ret ?_ | refine seqQ_norm ?_ | refine seqQ_ret ?_ | refine seqQ_exit ?_ | refine blkQ_norm ?_ | refine blkQ_ret ?_ | refine blkQ_exit ?_ | refine loopQ_norm ?_ | refine loopQ_exit ?_ | refine loopQ_ret ?_ | refine endQ_ret ?_ | refine endQ_norm ?_ | refine endE_ret ?_ | refine endE_norm ?_ | refine endI_ret ?_ | refine endI_norm ?_)
      | (with_reducible refine wp_loop (c := pl265_0) ?_
         conv => arg 2; unfold pl265_0)
      | (with_reducible refine wp_regK fun K hK => ?_
         simp[hb]
         repeat' (with_reducible first | refine hK _ ?_ | (refine psel ?_ ?_ <;> (intro hc; (try rw [Decidable.not_not] at hc); first | (exfalso; omega) | (try simp [hc, hb]))))
         all_goals (clear hK; clear K))
      | (with_reducible refine wp_condE ?_
         refine ⟨_, rfl, ?_, ?_⟩ <;> (intro hc; (try simp at hc); (all_goals first | (exfalso; omega) | skip))))
    all_goals first | (simp [pf265, chunkNewF, hb]; done) | (exfalso; omega)

def wrB (n i : Int) (l : List XSlot) : Bool := match l[i.toNat]? with
  | some x => decide (0 ≤ i ∧ i < n ∧ x.Ins = 0)
  | none => false

def wrL (n i : Int) (v : List XVal) (l : List XSlot) : List XSlot := if wrB n i l = true then l.set i.toNat ⟨-1, v⟩ else l

theorem wrL_len (n i : Int) (v : List XVal) (l : List XSlot) : (wrL n i v l).length = l.length := by
  unfold wrL; split <;> simp

theorem wrL_sms (n i : Int) (v : List XVal) (l : List XSlot) (h : XSlot.sms l) (hv : v.length ≤ 1048576) (hs : XVal.sms v) : XSlot.sms (wrL n i v l) := by
  unfold wrL; split
  · intro y hy
    rcases List.mem_or_eq_of_mem_set hy with hy | rfl
    · exact h y hy
    · exact ⟨hv, hs⟩
  · exact h

theorem wrB_out {n i : Int} {l : List XSlot} (h : ¬ (0 ≤ i ∧ i < n ∧ i < (l.length : Int))) : wrB n i l = false := by
  unfold wrB; split
  · rename_i y hy
    have := (List.getElem?_eq_some_iff.1 hy).1
    simp only [decide_eq_false_iff_not]
    intro hh
    omega
  · rfl

@[simp] theorem t347 (k0 : Bool) (x_Next : Int) (x_L : List XSlot) (i : Int) (k1 : Bool) (v : List XVal) (h : x_L.length ≤ 1048576) (hs : XSlot.sms x_L) (hv : v.length ≤ 1048576) (hvs : XVal.sms v) : Gw TT 347 [.st [.ro false (di x_Next), .ro k0 (.sl 2 (x_L.map XSlot.e))], vi i, .one (.ro k1 (.sl 3 (v.map XVal.e)))] = some (.tup [.st [.ro false (di x_Next), .own (.sl 2 ((wrL x_Next i v x_L).map XSlot.e))], vb (wrB x_Next i x_L)], []) := by
  refine Gw_of (F := pf347) rfl rfl ?_
  show Wp _ pb347 _ _
  unfold pb347
  have hq : v.length * 32 ≤ 70368744177664 := by omega
  by_cases hb : 0 ≤ i ∧ i < x_Next ∧ i < (x_L.length : Int)
  · obtain ⟨hb0, hb1, hb2⟩ := hb
    obtain ⟨x, hx⟩ : ∃ x, x_L[i.toNat]? = some x := ⟨_, List.getElem?_eq_getElem (by omega)⟩
    obtain ⟨hlt, he⟩ := List.getElem?_eq_some_iff.1 hx
    have n1 : ¬ (x_Next ≤ i) := by omega
    have n2 : ¬ ((x_L.length : Int) ≤ i) := by omega
    by_cases h0 : x.Ins = 0
    · have hB : wrB x_Next i x_L = true := by simp [wrB, hx, hb0, hb1, h0]
      repeat' (first
        | with_reducible (first | refine wp_seq ?_ | refine wp_blk ?_ | refine wp_skip ?_ | refine wp_exit ?_ | refine wp_ret ?_ | refine seqQ_norm ?_ | refine seqQ_ret ?_ | refine seqQ_exit ?_ | refine blkQ_norm ?_ | refine blkQ_ret ?_ | refine blkQ_exit ?_ | refine loopQ_norm ?_ | refine loopQ_exit ?_ | refine loopQ_ret ?_ | refine endQ_ret ?_ | refine endQ_norm ?_ | refine endE_ret ?_ | refine endE_norm ?_ | refine endI_ret ?_ | refine endI_norm ?_)
        | (with_reducible refine wp_regK fun K hK => ?_
           simp[h, hs, hv, hvs, hq, hb0, hb1, hb2, n1, n2, hlt, hx, he, h0]
           repeat' (with_reducible first | refine hK _ ?_ | (refine psel ?_ ?_ <;> (intro hc; (try rw [Decidable.not_not] at hc); first | (exfalso; omega) | (try simp [hc, h, hs, hv, hvs, hq, hb0, hb1, hb2, n1, n2, hlt, hx, he, h0]))))
           all_goals (clear hK; clear K))
        | (with_reducible refine wp_condE ?_
           refine ⟨_, rfl, ?_, ?_⟩ <;> (intro hc; (try simp at hc); (all_goals first | (exfalso; omega) | skip))))
      all_goals first | (simp [pf347, wrL, hB]; done) | (exfalso; omega)
    · have hB : wrB x_Next i x_L = false := by simp [wrB, hx, h0]
      repeat' (first
        | with_reducible (first | refine wp_seq ?_ | refine wp_blk ?_ | refine wp_skip ?_ | refine wp_exit ?_ | refine wp_ret ?_ | refine seqQ_norm ?_ | refine seqQ_ret ?_ | refine seqQ_exit ?_ | refine blkQ_norm ?_ | refine blkQ_ret ?_ | refine blkQ_exit ?_ | refine loopQ_norm ?_ | refine loopQ_exit ?_ | refine loopQ_ret ?_ | refine endQ_ret ?_ | refine endQ_norm ?_ | refine endE_ret ?_ | refine endE_norm ?_ | refine endI_ret ?_ | refine endI_norm ?_)
        | (with_reducible refine wp_regK fun K hK => ?_
           simp[h, hs, hv, hvs, hq, hb0, hb1, hb2, n1, n2, hlt, hx, he, h0]
           repeat' (with_reducible first | refine hK _ ?_ | (refine psel ?_ ?_ <;> (intro hc; (try rw [Decidable.not_not] at hc); first | (exfalso; omega) | (try simp [hc, h, hs, hv, hvs, hq, hb0, hb1, hb2, n1, n2, hlt, hx, he, h0]))))
           all_goals (clear hK; clear K))
        | (with_reducible refine wp_condE ?_
           refine ⟨_, rfl, ?_, ?_⟩ <;> (intro hc; (try simp at hc); (all_goals first | (exfalso; omega) | skip))))
      all_goals first | (simp [pf347, wrL, hB]; done) | (exfalso; omega)
  · have hB := wrB_out hb
    repeat' (first
      | with_reducible (first | refine wp_seq ?_ | refine wp_blk ?_ | refine wp_skip ?_ | refine wp_exit ?_ | refine wp_ret ?_ | refine seqQ_norm ?_ | refine seqQ_ret ?_ | refine seqQ_exit ?_ | refine blkQ_norm ?_ | refine blkQ_ret ?_ | refine blkQ_exit ?_ | refine loopQ_norm ?_ | refine loopQ_exit ?_ | refine loopQ_ret ?_ | refine endQ_ret ?_ | refine endQ_norm ?_ | refine endE_ret ?_ | refine endE_norm ?_ | refine endI_ret ?_ | refine endI_norm ?_)
      | (with_reducible refine wp_regK fun K hK => ?_
         simp[h, hs, hv, hvs, hq]
         repeat' (with_reducible first | refine hK _ ?_ | (refine psel ?_ ?_ <;> (intro hc; (try rw [Decidable.not_not] at hc); first | (exfalso; omega) | (try simp [hc, h, hs, hv, hvs, hq]))))
         all_goals (clear hK; clear K))
      | (with_reducible refine wp_condE ?_
         refine ⟨_, rfl, ?_, ?_⟩ <;> (intro hc; (try simp at hc); (all_goals first | (exfalso; omega) | skip))))
    all_goals first | (simp [pf347, wrL, hB]; done) | (exfalso; omega) | (exfalso; simp_all; omega)

theorem d360_ex (c : XCur) (k0 : Bool) (cols : List Int) (h : cols.length ≤ 1000) : ∃ r : (XChunk) × XCur, Gw TT 360 [.ptr [.ro false (.sl 1 (c.b.map eb)), .ro false (di (c.i : Nat)), .ro false (di c.h)], .one (.ro k0 (.sl 1 (cols.map ei)))] = some (.st [.ro false (di r.1.Next), .own (.sl 2 (r.1.L.map XSlot.e))], [(0, 0, .ro false (.sl 1 (r.2.b.map eb))), (0, 1, .ro false (di (r.2.i : Nat))), (0, 2, .ro false (di r.2.h))]) ∧ (1 ≤ r.1.L.length ∧ r.1.L.length ≤ 4 ∧ XSlot.sms r.1.L) := by
  suffices h0 : ∃ y, Gw TT 360 [.ptr [.ro false (.sl 1 (c.b.map eb)), .ro false (di (c.i : Nat)), .ro false (di c.h)], .one (.ro k0 (.sl 1 (cols.map ei)))] = some y ∧ ∃ r : (XChunk) × XCur, y = (.st [.ro false (di r.1.Next), .own (.sl 2 (r.1.L.map XSlot.e))], [(0, 0, .ro false (.sl 1 (r.2.b.map eb))), (0, 1, .ro false (di (r.2.i : Nat))), (0, 2, .ro false (di r.2.h))]) ∧ (1 ≤ r.1.L.length ∧ r.1.L.length ≤ 4 ∧ XSlot.sms r.1.L) by
    obtain ⟨y, h1, r, rfl, h2⟩ := h0
    exact ⟨r, h1, h2⟩
  refine Gw_ofE (F := pf360) rfl rfl ?_
  show Wp _ pb360 _ _
  unfold pb360
  have q2 := p375 (d375 c 4).2 6
  have hn : ((d375 (d375 c 4).2 6).1.toNat : Int) = (d375 (d375 c 4).2 6).1 := Int.toNat_of_nonneg q2.1
  have q4 := q2.2.1 (by omega)
  have c1' := chunkNewF_len (IntKind.wrap .i64 (1 + (d375 c 4).1))
  have c2' := chunkNewF_sms (IntKind.wrap .i64 (1 + (d375 c 4).1))
  repeat' (first
    | with_reducible (first | refine wp_seq ?_ | refine wp_blk ?_ | refine wp_skip ?_ | refine wp_exit ?_ | refine wp_ret ?_ | refine seqQ_norm ?_ | refine seqQ_ret ?_ | refine seqQ_exit ?_ | refine blkQ_norm ?_ | refine blkQ_ret ?_ | refine blkQ_exit ?_ | refine loopQ_norm ?_ | refine loopQ_exit ?_ | refine loopQ_ret ?_ | refine endQ_ret ?_ | refine endQ_norm ?_ | refine endE_ret ?_ | refine endE_norm ?_ | refine endI_ret ?_ | refine endI_norm ?_)
    | (with_reducible refine wp_regK fun K hK => ?_
       simp
       repeat' (with_reducible first | refine hK _ ?_ | (refine psel ?_ ?_ <;> (intro hc; (try rw [Decidable.not_not] at hc); first | (exfalso; omega) | (try simp [hc]))))
       all_goals (clear hK; clear K))
    | (with_reducible refine wp_condE ?_
       refine ⟨_, rfl, ?_, ?_⟩ <;> (intro hc; (try simp at hc); (all_goals first | (exfalso; omega) | skip))))
  refine wp_loopI (σ := Nat × XChunk × XCur) (fun s => [(0, AV.bx 0 0, some (Rt.bx [.ro false (.sl 1 (s.2.2.b.map eb)), .ro false (di (s.2.2.i : Nat)), .ro false (di s.2.2.h)])), (1, AV.v k0 (D.sl 1 (cols.map ei)), none), (4, AV.bx 4 0, some (Rt.bx [.ro false (di 0), .own (.sl 2 [])])), (5, AV.bx 5 0, some (Rt.bx [.ro false (di s.2.1.Next), .own (.sl 2 (s.2.1.L.map XSlot.e))])), (6, AV.v false (di (s.1 : Nat)), none)]) (fun s => s.1 ≤ 10 ∧ 1 ≤ s.2.1.L.length ∧ s.2.1.L.length ≤ 4 ∧ XSlot.sms s.2.1.L) (fun s => s.1) ((d375 (d375 c 4).2 6).1.toNat, ⟨0, (chunkNewF (IntKind.wrap .i64 (1 + (d375 c 4).1)))⟩, (d375 (d375 c 4).2 6).2) (by simp [hn]) ⟨by simp only; omega, c1'.1, c1'.2, c2'⟩ ?_
  rintro ⟨n, x, c1⟩ ⟨h1, h2, h3, h4⟩
  simp only at h1 h2 h3 h4
  rcases n with _ | n
  · unfold pl360_0
    repeat' (first
      | with_reducible (first | refine wp_seq ?_ | refine wp_blk ?_ | refine wp_skip ?_ | refine wp_exit ?_ | refine wp_ret ?_ | refine seqQ_norm ?_ | refine seqQ_ret ?_ | refine seqQ_exit ?_ | refine blkQ_norm ?_ | refine blkQ_ret ?_ | refine blkQ_exit ?_ | refine loopQ_norm ?_ | refine loopQ_exit ?_ | refine loopQ_ret ?_ | refine endQ_ret ?_ | refine endQ_norm ?_ | refine endE_ret ?_ | refine endE_norm ?_ | refine endI_ret ?_ | refine endI_norm ?_)
      | (with_reducible refine wp_regK fun K hK => ?_
         simp
         repeat' (with_reducible first | refine hK _ ?_ | (refine psel ?_ ?_ <;> (intro hc; (try rw [Decidable.not_not] at hc); first | (exfalso; omega) | (try simp [hc]))))
         all_goals (clear hK; clear K))
      | (with_reducible refine wp_condE ?_
         refine ⟨_, rfl, ?_, ?_⟩ <;> (intro hc; (try simp at hc); (all_goals first | (exfalso; omega) | skip))))
    all_goals first | (exfalso; omega) | (refine ⟨_, by simp [pf360]; rfl, ?_⟩; refine ⟨(x, c1), ?_, ?_, ?_, ?_⟩; (focus (first | (simp; done) | (simp [*]; done))); (focus (exact h2)); (focus (exact h3)); (focus (exact h4)))
  · unfold pl360_0
    have hwn : IntKind.wrap .i64 (n : Int) = (n : Int) := wrap_i64 (by omega) (by omega)
    have pv := p401 (d382 c1 4).2 k0 cols h
    have v1 : (d401 (d382 c1 4).2 k0 cols h).1.length ≤ 1048576 := by omega
    have v2 := pv.2
    have x1 : x.L.length ≤ 1048576 := by omega
    have w1 : (wrL (resN x.Next x.L) (resI x.Next x.L) (d401 (d382 c1 4).2 k0 cols h).1 x.L).length ≤ 1048576 := by rw [wrL_len]; omega
    have w2 : XSlot.sms (wrL (resN x.Next x.L) (resI x.Next x.L) (d401 (d382 c1 4).2 k0 cols h).1 x.L) := wrL_sms _ _ _ _ h4 v1 v2
    have s1 : (stSlotL (resI x.Next x.L) (IntKind.wrap .i64 (1 + (d375 (d382 (d401 (d382 c1 4).2 k0 cols h).2 3).2 6).1)) (wrL (resN x.Next x.L) (resI x.Next x.L) (d401 (d382 c1 4).2 k0 cols h).1 x.L)).length = x.L.length := by rw [stSlotL_len, wrL_len]
    have s2 : XSlot.sms (stSlotL (resI x.Next x.L) (IntKind.wrap .i64 (1 + (d375 (d382 (d401 (d382 c1 4).2 k0 cols h).2 3).2 6).1)) (wrL (resN x.Next x.L) (resI x.Next x.L) (d401 (d382 c1 4).2 k0 cols h).1 x.L)) := stSlotL_sms _ _ _ w2
    have wl : (wrL (resN x.Next x.L) (resI x.Next x.L) (d401 (d382 c1 4).2 k0 cols h).1 x.L).length = x.L.length := wrL_len _ _ _ _
    repeat' (first
      | with_reducible (first | refine wp_seq ?_ | refine wp_blk ?_ | refine wp_skip ?_ | refine wp_exit ?_ | refine wp_ret ?_ | refine seqQ_norm ?_ | refine seqQ_ret ?_ | refine seqQ_exit ?_ | refine blkQ_norm ?_ | refine blkQ_ret ?_ | refine blkQ_exit ?_ | refine loopQ_norm ?_ | refine loopQ_exit ?_ | refine loopQ_ret ?_ | refine endQ_ret ?_ | refine endQ_norm ?_ | refine endE_ret ?_ | refine endE_norm ?_ | refine endI_ret ?_ | refine endI_norm ?_)
      | (with_reducible refine wp_regK fun K hK => ?_
         simp[hwn, h, x1, h4, v1, v2, w1, w2]
         repeat' (with_reducible first | refine hK _ ?_ | (refine psel ?_ ?_ <;> (intro hc; (try rw [Decidable.not_not] at hc); first | (exfalso; omega) | (try simp [hc, hwn, h, x1, h4, v1, v2, w1, w2]))))
         all_goals (clear hK; clear K))
      | (with_reducible refine wp_condE ?_
         refine ⟨_, rfl, ?_, ?_⟩ <;> (intro hc; (try simp at hc); (all_goals first | (exfalso; omega) | skip))))
    all_goals first | (exfalso; omega) | (refine ⟨(n, ⟨(resN x.Next x.L), x.L⟩, c1), ?_, ⟨?_, ?_, ?_, ?_⟩, ?_⟩; (focus (first | (simp [hwn]; done) | (simp [*]; done))); (focus (simp only; omega)); (focus (exact h2)); (focus (exact h3)); (focus (exact h4)); (focus (simp; done))) | (refine ⟨(n, ⟨(resN x.Next x.L), x.L⟩, (d382 c1 4).2), ?_, ⟨?_, ?_, ?_, ?_⟩, ?_⟩; (focus (first | (simp [hwn]; done) | (simp [*]; done))); (focus (simp only; omega)); (focus (exact h2)); (focus (exact h3)); (focus (exact h4)); (focus (simp; done))) | (refine ⟨(n, ⟨(resN x.Next x.L), (wrL (resN x.Next x.L) (resI x.Next x.L) (d401 (d382 c1 4).2 k0 cols h).1 x.L)⟩, (d382 (d401 (d382 c1 4).2 k0 cols h).2 3).2), ?_, ⟨?_, ?_, ?_, ?_⟩, ?_⟩; (focus (first | (simp [hwn]; done) | (simp [*]; done))); (focus (simp only; omega)); (focus (simp only; omega)); (focus (simp only; omega)); (focus (exact w2)); (focus (simp; done))) | (refine ⟨(n, ⟨(resN x.Next x.L), (stSlotL (resI x.Next x.L) (IntKind.wrap .i64 (1 + (d375 (d382 (d401 (d382 c1 4).2 k0 cols h).2 3).2 6).1)) (wrL (resN x.Next x.L) (resI x.Next x.L) (d401 (d382 c1 4).2 k0 cols h).1 x.L))⟩, (d375 (d382 (d401 (d382 c1 4).2 k0 cols h).2 3).2 6).2), ?_, ⟨?_, ?_, ?_, ?_⟩, ?_⟩; (focus (first | (simp [hwn]; done) | (simp [*]; done))); (focus (simp only; omega)); (focus (simp only; omega)); (focus (simp only; omega)); (focus (exact s2)); (focus (simp; done))) | skip

noncomputable def d360 (c : XCur) (k0 : Bool) (cols : List Int) (h : cols.length ≤ 1000) : (XChunk) × XCur := Classical.choose (d360_ex c k0 cols h)

@[simp] theorem t360 (c : XCur) (k0 : Bool) (cols : List Int) (h : cols.length ≤ 1000) : Gw TT 360 [.ptr [.ro false (.sl 1 (c.b.map eb)), .ro false (di (c.i : Nat)), .ro false (di c.h)], .one (.ro k0 (.sl 1 (cols.map ei)))] = some (.st [.ro false (di (d360 c k0 cols h).1.Next), .own (.sl 2 ((d360 c k0 cols h).1.L.map XSlot.e))], [(0, 0, .ro false (.sl 1 ((d360 c k0 cols h).2.b.map eb))), (0, 1, .ro false (di ((d360 c k0 cols h).2.i : Nat))), (0, 2, .ro false (di (d360 c k0 cols h).2.h))]) := (Classical.choose_spec (d360_ex c k0 cols h)).1

theorem p360 (c : XCur) (k0 : Bool) (cols : List Int) (h : cols.length ≤ 1000) : 1 ≤ (d360 c k0 cols h).1.L.length ∧ (d360 c k0 cols h).1.L.length ≤ 4 ∧ XSlot.sms (d360 c k0 cols h).1.L := (Classical.choose_spec (d360_ex c k0 cols h)).2

theorem d358_ex (c : XCur) (k0 : Bool) (cols : List Int) (h : cols.length ≤ 1000) : ∃ r : (XChunk) × XCur, Gw TT 358 [.ptr [.ro false (.sl 1 (c.b.map eb)), .ro false (di (c.i : Nat)), .ro false (di c.h)], .one (.ro k0 (.sl 1 (cols.map ei)))] = some (.st [.ro false (di r.1.Next), .own (.sl 2 (r.1.L.map XSlot.e))], [(0, 0, .ro false (.sl 1 (r.2.b.map eb))), (0, 1, .ro false (di (r.2.i : Nat))), (0, 2, .ro false (di r.2.h))]) ∧ (r.1.L.length ≤ 6 ∧ XSlot.sms r.1.L) := by
  suffices h0 : ∃ y, Gw TT 358 [.ptr [.ro false (.sl 1 (c.b.map eb)), .ro false (di (c.i : Nat)), .ro false (di c.h)], .one (.ro k0 (.sl 1 (cols.map ei)))] = some y ∧ ∃ r : (XChunk) × XCur, y = (.st [.ro false (di r.1.Next), .own (.sl 2 (r.1.L.map XSlot.e))], [(0, 0, .ro false (.sl 1 (r.2.b.map eb))), (0, 1, .ro false (di (r.2.i : Nat))), (0, 2, .ro false (di r.2.h))]) ∧ (r.1.L.length ≤ 6 ∧ XSlot.sms r.1.L) by
    obtain ⟨y, h1, r, rfl, h2⟩ := h0
    exact ⟨r, h1, h2⟩
  refine Gw_ofE (F := pf358) rfl rfl ?_
  show Wp _ pb358 _ _
  unfold pb358
  have q := p360 c k0 cols h
  obtain ⟨⟨x, c1⟩, hx⟩ : ∃ r, d360 c k0 cols h = r := ⟨_, rfl⟩
  rw [hx] at q
  obtain ⟨nx, l⟩ := x
  simp only at q
  obtain ⟨q1, q2, q3⟩ := q
  rcases l with _ | ⟨⟨ins, vl⟩, l⟩
  · simp at q1
  obtain ⟨⟨v, c2⟩, hv⟩ : ∃ r, d375 c1 12 = r := ⟨_, rfl⟩
  simp only [List.length_cons] at q1 q2
  have hwl : IntKind.wrap .i64 ((l.length : Int) + 1 + 1) = (l.length : Int) + 1 + 1 := wrap_i64 (by omega) (by omega)
  obtain ⟨r, gr⟩ : ∃ r : Int × XCur, Gw TT 378 [.ptr [.ro false (.sl 1 (c2.b.map eb)), .ro false (di (c2.i : Nat)), .ro false (di c2.h)], .one (.ro true (.sl 1 [[di (-1)], [di 0], [di ((l.length : Int) + 1)], [di ((l.length : Int) + 1 + 1)]]))] = some (vi r.1, [(0, 0, .ro false (.sl 1 (r.2.b.map eb))), (0, 1, .ro false (di (r.2.i : Nat))), (0, 2, .ro false (di r.2.h))]) := ⟨_, t378 c2 true [[di (-1)], [di 0], [di ((l.length : Int) + 1)], [di ((l.length : Int) + 1 + 1)]] (by simp) (by simp) (by simp)⟩
  have hq1 : (l.length + 1 + 2) * 32 ≤ 70368744177664 := by omega
  have pa := p398 c2 k0 cols h
  have hd := q3 ⟨ins, vl⟩ (by simp)
  simp only [XSlot.sm] at hd
  have u0 : XSlot.sms l := fun y hy => q3 y (List.mem_cons_of_mem _ hy)
  have u1 : XSlot.sms (⟨(d357 c2).1, vl⟩ :: l) := fun y hy => by
    rcases List.mem_cons.1 hy with rfl | hy
    · exact hd
    · exact u0 y hy
  have u2 : XSlot.sms (⟨ins, (d398 c2 k0 cols h).1⟩ :: l) := fun y hy => by
    rcases List.mem_cons.1 hy with rfl | hy
    · exact ⟨by simp only; omega, pa.2⟩
    · exact u0 y hy
  have u3 : XSlot.sms (⟨ins, vl⟩ :: l ++ [⟨0, []⟩, ⟨0, []⟩]) := fun y hy => by
    rcases List.mem_append.1 hy with hy | hy
    · exact q3 y hy
    · have : y = ⟨0, []⟩ := by simpa using hy
      rw [this]; simp [XSlot.sm, XVal.sms]
  repeat' (first
    | with_reducible (first | refine wp_seq ?_ | refine wp_blk ?_ | refine wp_skip ?_ | refine wp_exit ?_ | refine wp_ret ?_ | refine seqQ_norm ?_ | refine seqQ_ret ?_ | refine seqQ_exit ?_ | refine blkQ_norm ?_ | refine blkQ_ret ?_ | refine blkQ_exit ?_ | refine loopQ_norm ?_ | refine loopQ_exit ?_ | refine loopQ_ret ?_ | refine endQ_ret ?_ | refine endQ_norm ?_ | refine endE_ret ?_ | refine endE_norm ?_ | refine endI_ret ?_ | refine endI_norm ?_)
    | (with_reducible refine wp_regK fun K hK => ?_
       simp[h, hx, hv, gr, hq1, hwl]
       repeat' (with_reducible first | refine hK _ ?_ | (refine psel ?_ ?_ <;> (intro hc; (try rw [Decidable.not_not] at hc); first | (exfalso; omega) | (try simp [hc, h, hx, hv, gr, hq1, hwl]))))
       all_goals (clear hK; clear K))
    | (with_reducible refine wp_condE ?_
       refine ⟨_, rfl, ?_, ?_⟩ <;> (intro hc; (try simp at hc); (all_goals first | (exfalso; omega) | skip))))
  all_goals first | (exfalso; omega) | (refine ⟨_, by simp [pf358]; rfl, ?_⟩; refine ⟨((⟨r.1, ⟨ins, vl⟩ :: l⟩ : XChunk), r.2), ?_, ?_, ?_⟩; (focus (first | (simp; done) | (simp [*]; done))); (focus (simp only [List.length_cons]; omega)); (focus (exact q3))) | (refine ⟨_, by simp [pf358]; rfl, ?_⟩; refine ⟨((⟨nx, ⟨(d357 c2).1, vl⟩ :: l⟩ : XChunk), (d357 c2).2), ?_, ?_, ?_⟩; (focus (first | (simp; done) | (simp [*]; done))); (focus (simp only [List.length_cons]; omega)); (focus (exact u1))) | (refine ⟨_, by simp [pf358]; rfl, ?_⟩; refine ⟨((⟨nx, ⟨ins, (d398 c2 k0 cols h).1⟩ :: l⟩ : XChunk), (d398 c2 k0 cols h).2), ?_, ?_, ?_⟩; (focus (first | (simp; done) | (simp [*]; done))); (focus (simp only [List.length_cons]; omega)); (focus (exact u2))) | (refine ⟨_, by simp [pf358]; rfl, ?_⟩; refine ⟨((⟨nx, ⟨ins, vl⟩ :: l ++ [⟨0, []⟩, ⟨0, []⟩]⟩ : XChunk), c2), ?_, ?_, ?_⟩; (focus (first | (simp; done) | (simp [*]; done))); (focus (simp only [List.length_append, List.length_cons, List.length_nil]; omega)); (focus (exact u3))) | (refine ⟨_, by simp [pf358]; rfl, ?_⟩; refine ⟨((⟨nx, ⟨ins, vl⟩ :: l⟩ : XChunk), c2), ?_, ?_, ?_⟩; (focus (first | (simp; done) | (simp [*]; done))); (focus (simp only [List.length_cons]; omega)); (focus (exact q3))) | skip

noncomputable def d358 (c : XCur) (k0 : Bool) (cols : List Int) (h : cols.length ≤ 1000) : (XChunk) × XCur := Classical.choose (d358_ex c k0 cols h)

@[simp] theorem t358 (c : XCur) (k0 : Bool) (cols : List Int) (h : cols.length ≤ 1000) : Gw TT 358 [.ptr [.ro false (.sl 1 (c.b.map eb)), .ro false (di (c.i : Nat)), .ro false (di c.h)], .one (.ro k0 (.sl 1 (cols.map ei)))] = some (.st [.ro false (di (d358 c k0 cols h).1.Next), .own (.sl 2 ((d358 c k0 cols h).1.L.map XSlot.e))], [(0, 0, .ro false (.sl 1 ((d358 c k0 cols h).2.b.map eb))), (0, 1, .ro false (di ((d358 c k0 cols h).2.i : Nat))), (0, 2, .ro false (di (d358 c k0 cols h).2.h))]) := (Classical.choose_spec (d358_ex c k0 cols h)).1

theorem p358 (c : XCur) (k0 : Bool) (cols : List Int) (h : cols.length ≤ 1000) : (d358 c k0 cols h).1.L.length ≤ 6 ∧ XSlot.sms (d358 c k0 cols h).1.L := (Classical.choose_spec (d358_ex c k0 cols h)).2

@[simp] theorem t209 (k0 k1 : Bool) (l : List XVal) (h : l.length ≤ 1048576) : Gw TT 209 [.one (.ro k0 (.sl 3 (l.map XVal.e))), .one (.ro k1 (.sl 3 (l.map XVal.e)))] = some (vb true, []) := by
  refine Gw_of (F := pf209) rfl rfl ?_
  show Wp _ pb209 _ _
  unfold pb209
  repeat' (first
    | with_reducible (first | refine wp_seq ?_ | refine wp_blk ?_ | refine wp_skip ?_ | refine wp_exit ?_ | refine wp_ret ?_ | refine seqQ_norm ?_ | refine seqQ_ret ?_ | refine seqQ_exit ?_ | refine blkQ_norm ?_ | refine blkQ_ret ?_ | refine blkQ_exit ?_ | refine loopQ_norm ?_ | refine loopQ_exit ?_ | refine loopQ_ret ?_ | refine endQ_ret ?_ | refine endQ_norm ?_ | refine endE_ret ?_ | refine endE_norm ?_ | refine endI_ret ?_ | refine endI_norm ?_)
    | (with_reducible refine wp_regK fun K hK => ?_
       simp
       repeat' (with_reducible first | refine hK _ ?_ | (refine psel ?_ ?_ <;> (intro hc; (try rw [Decidable.not_not] at hc); first | (exfalso; omega) | (try simp [hc]))))
       all_goals (clear hK; clear K))
    | (with_reducible refine wp_condE ?_
       refine ⟨_, rfl, ?_, ?_⟩ <;> (intro hc; (try simp at hc); (all_goals first | (exfalso; omega) | skip))))
  refine wp_loopI (σ := List XVal × List XVal) (fun s => [(0, AV.v k0 (D.sl 3 (l.map XVal.e)), none), (1, AV.v k1 (D.sl 3 (l.map XVal.e)), none), (5, AV.v false (di ((s.1.length : Nat) : Int)), none)]) (fun s => l = s.1 ++ s.2) (fun s => s.2.length) ([], l) (by simp) rfl ?_
  rintro ⟨pre, rest⟩ h1
  simp only at h1
  subst h1
  simp only [List.length_append, List.length_cons] at h
  rcases rest with _ | ⟨d, rest⟩
  · unfold pl209_0
    repeat' (first
      | with_reducible (first | refine wp_seq ?_ | refine wp_blk ?_ | refine wp_skip ?_ | refine wp_exit ?_ | refine wp_ret ?_ | refine seqQ_norm ?_ | refine seqQ_ret ?_ | refine seqQ_exit ?_ | refine blkQ_norm ?_ | refine blkQ_ret ?_ | refine blkQ_exit ?_ | refine loopQ_norm ?_ | refine loopQ_exit ?_ | refine loopQ_ret ?_ | refine endQ_ret ?_ | refine endQ_norm ?_ | refine endE_ret ?_ | refine endE_norm ?_ | refine endI_ret ?_ | refine endI_norm ?_)
      | (with_reducible refine wp_regK fun K hK => ?_
         simp
         repeat' (with_reducible first | refine hK _ ?_ | (refine psel ?_ ?_ <;> (intro hc; (try rw [Decidable.not_not] at hc); first | (exfalso; omega) | (try simp [hc]))))
         all_goals (clear hK; clear K))
      | (with_reducible refine wp_condE ?_
         refine ⟨_, rfl, ?_, ?_⟩ <;> (intro hc; (try simp at hc); (all_goals first | (exfalso; omega) | skip))))
    all_goals first | (simp [pf209]; done) | (exfalso; omega)
  · unfold pl209_0
    simp only [List.length_cons] at h
    have hw : IntKind.wrap .i64 ((pre.length : Int) + 1) = (pre.length : Int) + 1 := wrap_i64 (by omega) (by omega)
    repeat' (first
      | with_reducible (first | refine wp_seq ?_ | refine wp_blk ?_ | refine wp_skip ?_ | refine wp_exit ?_ | refine wp_ret ?_ | refine seqQ_norm ?_ | refine seqQ_ret ?_ | refine seqQ_exit ?_ | refine blkQ_norm ?_ | refine blkQ_ret ?_ | refine blkQ_exit ?_ | refine loopQ_norm ?_ | refine loopQ_exit ?_ | refine loopQ_ret ?_ | refine endQ_ret ?_ | refine endQ_norm ?_ | refine endE_ret ?_ | refine endE_norm ?_ | refine endI_ret ?_ | refine endI_norm ?_)
      | (with_reducible refine wp_regK fun K hK => ?_
         simp[hw]
         repeat' (with_reducible first | refine hK _ ?_ | (refine psel ?_ ?_ <;> (intro hc; (try rw [Decidable.not_not] at hc); first | (exfalso; omega) | (try simp [hc, hw]))))
         all_goals (clear hK; clear K))
      | (with_reducible refine wp_condE ?_
         refine ⟨_, rfl, ?_, ?_⟩ <;> (intro hc; (try simp at hc); (all_goals first | (exfalso; omega) | skip))))
    all_goals first | exact ⟨(pre ++ [d], rest), by simp, by simp, by simp⟩ | (exfalso; omega)

@[simp] theorem t199 (k0 k1 : Bool) (x_Next : Int) (x_L : List XSlot) (h : x_L.length ≤ 1048576) (hs : XSlot.sms x_L) : Gw TT 199 [.st [.ro false (di x_Next), .ro k0 (.sl 2 (x_L.map XSlot.e))], .st [.ro false (di x_Next), .ro k1 (.sl 2 (x_L.map XSlot.e))]] = some (vb true, []) := by
  refine Gw_of (F := pf199) rfl rfl ?_
  show Wp _ pb199 _ _
  unfold pb199
  repeat' (first
    | with_reducible (first | refine wp_seq ?_ | refine wp_blk ?_ | refine wp_skip ?_ | refine wp_exit ?_ | refine wp_ret ?_ | refine seqQ_norm ?_ | refine seqQ_ret ?_ | refine seqQ_exit ?_ | refine blkQ_norm ?_ | refine blkQ_ret ?_ | refine blkQ_exit ?_ | refine loopQ_norm ?_ | refine loopQ_exit ?_ | refine loopQ_ret ?_ | refine endQ_ret ?_ | refine endQ_norm ?_ | refine endE_ret ?_ | refine endE_norm ?_ | refine endI_ret ?_ | refine endI_norm ?_)
    | (with_reducible refine wp_regK fun K hK => ?_
       simp
       repeat' (with_reducible first | refine hK _ ?_ | (refine psel ?_ ?_ <;> (intro hc; (try rw [Decidable.not_not] at hc); first | (exfalso; omega) | (try simp [hc]))))
       all_goals (clear hK; clear K))
    | (with_reducible refine wp_condE ?_
       refine ⟨_, rfl, ?_, ?_⟩ <;> (intro hc; (try simp at hc); (all_goals first | (exfalso; omega) | skip))))
  refine wp_loopI (σ := List XSlot × List XSlot) (fun s => [(2, AV.bx 2 0, some (Rt.bx [.ro false (di x_Next), .ro k0 (.sl 2 (x_L.map XSlot.e))])), (3, AV.bx 3 0, some (Rt.bx [.ro false (di x_Next), .ro k1 (.sl 2 (x_L.map XSlot.e))])), (5, AV.v false (di ((s.1.length : Nat) : Int)), none)]) (fun s => x_L = s.1 ++ s.2) (fun s => s.2.length) ([], x_L) (by simp) rfl ?_
  rintro ⟨pre, rest⟩ h1
  simp only at h1
  subst h1
  simp only [List.length_append, List.length_cons] at h
  rcases rest with _ | ⟨d, rest⟩
  · unfold pl199_0
    repeat' (first
      | with_reducible (first | refine wp_seq ?_ | refine wp_blk ?_ | refine wp_skip ?_ | refine wp_exit ?_ | refine wp_ret ?_ | refine seqQ_norm ?_ | refine seqQ_ret ?_ | refine seqQ_exit ?_ | refine blkQ_norm ?_ | refine blkQ_ret ?_ | refine blkQ_exit ?_ | refine loopQ_norm ?_ | refine loopQ_exit ?_ | refine loopQ_ret ?_ | refine endQ_ret ?_ | refine endQ_norm ?_ | refine endE_ret ?_ | refine endE_norm ?_ | refine endI_ret ?_ | refine endI_norm ?_)
      | (with_reducible refine wp_regK fun K hK => ?_
         simp
         repeat' (with_reducible first | refine hK _ ?_ | (refine psel ?_ ?_ <;> (intro hc; (try rw [Decidable.not_not] at hc); first | (exfalso; omega) | (try simp [hc]))))
         all_goals (clear hK; clear K))
      | (with_reducible refine wp_condE ?_
         refine ⟨_, rfl, ?_, ?_⟩ <;> (intro hc; (try simp at hc); (all_goals first | (exfalso; omega) | skip))))
    all_goals first | (simp [pf199]; done) | (exfalso; omega)
  · unfold pl199_0
    simp only [List.length_cons] at h
    have hd := hs d (by simp)
    simp only [XSlot.sm] at hd
    obtain ⟨hd1, hd2⟩ := hd
    have hw : IntKind.wrap .i64 ((pre.length : Int) + 1) = (pre.length : Int) + 1 := wrap_i64 (by omega) (by omega)
    have hlt : (pre.length : Int) < (pre.length : Int) + ((rest.length : Int) + 1) := by omega
    repeat' (first
      | with_reducible (first | refine wp_seq ?_ | refine wp_blk ?_ | refine wp_skip ?_ | refine wp_exit ?_ | refine wp_ret ?_ | refine seqQ_norm ?_ | refine seqQ_ret ?_ | refine seqQ_exit ?_ | refine blkQ_norm ?_ | refine blkQ_ret ?_ | refine blkQ_exit ?_ | refine loopQ_norm ?_ | refine loopQ_exit ?_ | refine loopQ_ret ?_ | refine endQ_ret ?_ | refine endQ_norm ?_ | refine endE_ret ?_ | refine endE_norm ?_ | refine endI_ret ?_ | refine endI_norm ?_)
      | (with_reducible refine wp_regK fun K hK => ?_
         simp[hw, hd1, hlt]
         repeat' (with_reducible first | refine hK _ ?_ | (refine psel ?_ ?_ <;> (intro hc; (try rw [Decidable.not_not] at hc); first | (exfalso; omega) | (try simp [hc, hw, hd1, hlt]))))
         all_goals (clear hK; clear K))
      | (with_reducible refine wp_condE ?_
         refine ⟨_, rfl, ?_, ?_⟩ <;> (intro hc; (try simp at hc); (all_goals first | (exfalso; omega) | skip))))
    all_goals first | exact ⟨(pre ++ [d], rest), by simp, by simp, by simp⟩ | (exfalso; omega) | skip

theorem bl_loop (bs : ByteArray) : ∀ (k i : Nat) (r : List UInt8), bs.size - i = k → (ByteArray.toList.loop bs i r).length = k + r.length
  | 0, i, r, h => by
    rw [ByteArray.toList.loop, if_neg (by omega)]; simp
  | k + 1, i, r, h => by
    rw [ByteArray.toList.loop, if_pos (by omega), bl_loop bs k (i + 1) _ (by omega)]; simp; omega

theorem bl_len (bs : ByteArray) : bs.toList.length = bs.size := by
  unfold ByteArray.toList
  rw [bl_loop bs bs.size 0 [] (by omega)]; simp

def okc (b : UInt8) : Bool := decide ((97 ≤ b.toNat ∧ b.toNat ≤ 122) ∨ (48 ≤ b.toNat ∧ b.toNat ≤ 57))

def textB : List UInt8 → Bool
  | [] => true
  | b :: l => if okc b = true then textB l else false

def numB (n : Int) : Bool := decide (-1000000000 ≤ n) && decide (n ≤ 1000000000)

def valOkF (ty n : Int) (s : ByteArray) : Bool := if ty = 1 then numB n && (s.toList == (⟨#[]⟩ : ByteArray).toList) else (decide (ty = 2) && (decide (n = 0) && (decide (s.size ≤ 6) && textB s.toList)))

@[simp] theorem t79 (n : Int) : Gw TT 79 [vi n] = some (vb (numB n), []) := by
  refine Gw_of (F := pf79) rfl rfl ?_
  show Wp _ pb79 _ _
  unfold pb79
  repeat' (first
    | with_reducible (first | refine wp_seq ?_ | refine wp_blk ?_ | refine wp_skip ?_ | refine wp_exit ?_ | refine wp_ret ?_ | refine seqQ_norm ?_ | refine seqQ_ret ?_ | refine seqQ_exit ?_ | refine blkQ_norm ?_ | refine blkQ_ret ?_ | refine blkQ_exit ?_ | refine loopQ_norm ?_ | refine loopQ_exit ?_ | refine loopQ_ret ?_ | refine endQ_ret ?_ | refine endQ_norm ?_ | refine endE_ret ?_ | refine endE_norm ?_ | refine endI_ret ?_ | refine endI_norm ?_)
    | (with_reducible refine wp_regK fun K hK => ?_
       simp
       repeat' (with_reducible first | refine hK _ ?_ | (refine psel ?_ ?_ <;> (intro hc; (try rw [Decidable.not_not] at hc); first | (exfalso; omega) | (try simp [hc]))))
       all_goals (clear hK; clear K))
    | (with_reducible refine wp_condE ?_
       refine ⟨_, rfl, ?_, ?_⟩ <;> (intro hc; (try simp at hc); (all_goals first | (exfalso; omega) | skip))))
  all_goals first | (simp [pf79, numB]; done) | (simp_all [pf79, numB]; done)

@[simp] theorem t384 (n : Int) : Gw TT 384 [vi n] = some (vb (numB n), []) := by
  refine Gw_of (F := pf384) rfl rfl ?_
  show Wp _ pb384 _ _
  unfold pb384
  repeat' (first
    | with_reducible (first | refine wp_seq ?_ | refine wp_blk ?_ | refine wp_skip ?_ | refine wp_exit ?_ | refine wp_ret ?_ | refine seqQ_norm ?_ | refine seqQ_ret ?_ | refine seqQ_exit ?_ | refine blkQ_norm ?_ | refine blkQ_ret ?_ | refine blkQ_exit ?_ | refine loopQ_norm ?_ | refine loopQ_exit ?_ | refine loopQ_ret ?_ | refine endQ_ret ?_ | refine endQ_norm ?_ | refine endE_ret ?_ | refine endE_norm ?_ | refine endI_ret ?_ | refine endI_norm ?_)
    | (with_reducible refine wp_regK fun K hK => ?_
       simp
       repeat' (with_reducible first | refine hK _ ?_ | (refine psel ?_ ?_ <;> (intro hc; (try rw [Decidable.not_not] at hc); first | (exfalso; omega) | (try simp [hc]))))
       all_goals (clear hK; clear K))
    | (with_reducible refine wp_condE ?_
       refine ⟨_, rfl, ?_, ?_⟩ <;> (intro hc; (try simp at hc); (all_goals first | (exfalso; omega) | skip))))
  all_goals first | (simp [pf384, numB]; done) | (simp_all [pf384, numB]; done)

@[simp] theorem t60 (x_Ty : Int) (x_N : Int) (x_S : ByteArray) (h : x_S.size ≤ 1048576) : Gw TT 60 [.st [.ro false (di x_Ty), .ro false (di x_N), .ro false (.str x_S)]] = some (vb (valOkF x_Ty x_N x_S), []) := by
  refine Gw_of (F := pf60) rfl rfl ?_
  show Wp _ pb60 _ _
  unfold pb60
  by_cases u1 : x_Ty = 1
  · repeat' (first
      | with_reducible (first | refine wp_seq ?_ | refine wp_blk ?_ | refine wp_skip ?_ | refine wp_exit ?_ | refine wp_ret ?_ | refine seqQ_norm ?_ | refine seqQ_ret ?_ | refine seqQ_exit ?_ | refine blkQ_norm ?_ | refine blkQ_ret ?_ | refine blkQ_exit ?_ | refine loopQ_norm ?_ | refine loopQ_exit ?_ | refine loopQ_ret ?_ | refine endQ_ret ?_ | refine endQ_norm ?_ | refine endE_ret ?_ | refine endE_norm ?_ | refine endI_ret ?_ | refine endI_norm ?_)
      | (with_reducible refine wp_regK fun K hK => ?_
         simp[u1]
         repeat' (with_reducible first | refine hK _ ?_ | (refine psel ?_ ?_ <;> (intro hc; (try rw [Decidable.not_not] at hc); first | (exfalso; omega) | (try simp [hc, u1]))))
         all_goals (clear hK; clear K))
      | (with_reducible refine wp_condE ?_
         refine ⟨_, rfl, ?_, ?_⟩ <;> (intro hc; (try simp at hc); (all_goals first | (exfalso; omega) | skip))))
    all_goals first | (simp [pf60, valOkF, u1]; done) | (simp_all [pf60, valOkF]; done)
  · by_cases u2 : x_Ty = 2
    · repeat' (first
        | with_reducible (first | refine wp_seq ?_ | refine wp_blk ?_ | refine wp_skip ?_ | refine wp_exit ?_ | refine wp_ret ?_ | refine seqQ_norm ?_ | refine seqQ_ret ?_ | refine seqQ_exit ?_ | refine blkQ_norm ?_ | refine blkQ_ret ?_ | refine blkQ_exit ?_ | refine loopQ_norm ?_ | refine loopQ_exit ?_ | refine loopQ_ret ?_ | refine endQ_ret ?_ | refine endQ_norm ?_ | refine endE_ret ?_ | refine endE_norm ?_ | refine endI_ret ?_ | refine endI_norm ?_)
        | (with_reducible refine wp_regK fun K hK => ?_
           simp[u1, u2]
           repeat' (with_reducible first | refine hK _ ?_ | (refine psel ?_ ?_ <;> (intro hc; (try rw [Decidable.not_not] at hc); first | (exfalso; omega) | (try simp [hc, u1, u2]))))
           all_goals (clear hK; clear K))
        | (with_reducible refine wp_condE ?_
           refine ⟨_, rfl, ?_, ?_⟩ <;> (intro hc; (try simp at hc); (all_goals first | (exfalso; omega) | skip))))
      refine wp_loopI (σ := List UInt8 × List UInt8) (fun s => [(1, AV.bx 1 0, some (Rt.bx [.ro false (di x_Ty), .ro false (di x_N), .ro false (.str x_S)])), (3, AV.v false (di ((s.1.length : Nat) : Int)), none)]) (fun s => x_S.toList = s.1 ++ s.2 ∧ textB s.2 = textB x_S.toList) (fun s => s.2.length) ([], x_S.toList) (by simp [u2]) ⟨rfl, rfl⟩ ?_
      rintro ⟨pre, rest⟩ ⟨h1, h2⟩
      simp only at h1 h2
      have hl := bl_len x_S
      rw [h1, List.length_append] at hl
      rcases rest with _ | ⟨d, rest⟩
      · simp only [List.length_nil] at hl
        simp only [textB] at h2
        have hsz : (x_S.size : Int) = (pre.length : Int) := by omega
        unfold pl60_0
        by_cases q1 : pre.length ≤ 6
        · have q2 : x_S.size ≤ 6 := by omega
          have q3 : (pre.length : Int) ≤ 6 := by omega
          repeat' (first
            | with_reducible (first | refine wp_seq ?_ | refine wp_blk ?_ | refine wp_skip ?_ | refine wp_exit ?_ | refine wp_ret ?_ | refine seqQ_norm ?_ | refine seqQ_ret ?_ | refine seqQ_exit ?_ | refine blkQ_norm ?_ | refine blkQ_ret ?_ | refine blkQ_exit ?_ | refine loopQ_norm ?_ | refine loopQ_exit ?_ | refine loopQ_ret ?_ | refine endQ_ret ?_ | refine endQ_norm ?_ | refine endE_ret ?_ | refine endE_norm ?_ | refine endI_ret ?_ | refine endI_norm ?_)
            | (with_reducible refine wp_regK fun K hK => ?_
               simp[hsz, q1, q2, q3]
               repeat' (with_reducible first | refine hK _ ?_ | (refine psel ?_ ?_ <;> (intro hc; (try rw [Decidable.not_not] at hc); first | (exfalso; omega) | (try simp [hc, hsz, q1, q2, q3]))))
               all_goals (clear hK; clear K))
            | (with_reducible refine wp_condE ?_
               refine ⟨_, rfl, ?_, ?_⟩ <;> (intro hc; (try simp at hc); (all_goals first | (exfalso; omega) | skip))))
          all_goals first | (simp_all [pf60, valOkF]; done) | (by_cases z : x_N = 0 <;> simp_all [pf60, valOkF]; done) | (exfalso; omega) | skip
        · have q2 : ¬ x_S.size ≤ 6 := by omega
          have q3 : ¬ (pre.length : Int) ≤ 6 := by omega
          repeat' (first
            | with_reducible (first | refine wp_seq ?_ | refine wp_blk ?_ | refine wp_skip ?_ | refine wp_exit ?_ | refine wp_ret ?_ | refine seqQ_norm ?_ | refine seqQ_ret ?_ | refine seqQ_exit ?_ | refine blkQ_norm ?_ | refine blkQ_ret ?_ | refine blkQ_exit ?_ | refine loopQ_norm ?_ | refine loopQ_exit ?_ | refine loopQ_ret ?_ | refine endQ_ret ?_ | refine endQ_norm ?_ | refine endE_ret ?_ | refine endE_norm ?_ | refine endI_ret ?_ | refine endI_norm ?_)
            | (with_reducible refine wp_regK fun K hK => ?_
               simp[hsz, q1, q2, q3]
               repeat' (with_reducible first | refine hK _ ?_ | (refine psel ?_ ?_ <;> (intro hc; (try rw [Decidable.not_not] at hc); first | (exfalso; omega) | (try simp [hc, hsz, q1, q2, q3]))))
               all_goals (clear hK; clear K))
            | (with_reducible refine wp_condE ?_
               refine ⟨_, rfl, ?_, ?_⟩ <;> (intro hc; (try simp at hc); (all_goals first | (exfalso; omega) | skip))))
          all_goals first | (simp_all [pf60, valOkF]; done) | (by_cases z : x_N = 0 <;> simp_all [pf60, valOkF]; done) | (exfalso; omega) | skip
      · simp only [List.length_cons] at hl
        simp only [textB] at h2
        have hg : x_S.toList[pre.length]? = some d := by rw [h1]; simp
        have hlt : (pre.length : Int) < (x_S.size : Int) := by omega
        have hlt2 : pre.length < x_S.size := by omega
        have hw : IntKind.wrap .i64 ((pre.length : Int) + 1) = (pre.length : Int) + 1 := wrap_i64 (by omega) (by omega)
        unfold pl60_0
        by_cases o : okc d = true
        · rw [if_pos o] at h2
          simp only [okc, decide_eq_true_eq] at o
          repeat' (first
            | with_reducible (first | refine wp_seq ?_ | refine wp_blk ?_ | refine wp_skip ?_ | refine wp_exit ?_ | refine wp_ret ?_ | refine seqQ_norm ?_ | refine seqQ_ret ?_ | refine seqQ_exit ?_ | refine blkQ_norm ?_ | refine blkQ_ret ?_ | refine blkQ_exit ?_ | refine loopQ_norm ?_ | refine loopQ_exit ?_ | refine loopQ_ret ?_ | refine endQ_ret ?_ | refine endQ_norm ?_ | refine endE_ret ?_ | refine endE_norm ?_ | refine endI_ret ?_ | refine endI_norm ?_)
            | (with_reducible refine wp_regK fun K hK => ?_
               simp[hg, hlt, hlt2, hw]
               repeat' (with_reducible first | refine hK _ ?_ | (refine psel ?_ ?_ <;> (intro hc; (try rw [Decidable.not_not] at hc); first | (exfalso; omega) | (try simp [hc, hg, hlt, hlt2, hw]))))
               all_goals (clear hK; clear K))
            | (with_reducible refine wp_condE ?_
               refine ⟨_, rfl, ?_, ?_⟩ <;> (intro hc; (try simp at hc); (all_goals first | (exfalso; omega) | skip))))
          all_goals first | exact ⟨(pre ++ [d], rest), by simp, ⟨by rw [h1]; simp, h2⟩, by simp⟩ | (exfalso; omega) | skip
        · rw [if_neg o] at h2
          have o2 := o
          simp only [okc, decide_eq_true_eq] at o2
          repeat' (first
            | with_reducible (first | refine wp_seq ?_ | refine wp_blk ?_ | refine wp_skip ?_ | refine wp_exit ?_ | refine wp_ret ?_ | refine seqQ_norm ?_ | refine seqQ_ret ?_ | refine seqQ_exit ?_ | refine blkQ_norm ?_ | refine blkQ_ret ?_ | refine blkQ_exit ?_ | refine loopQ_norm ?_ | refine loopQ_exit ?_ | refine loopQ_ret ?_ | refine endQ_ret ?_ | refine endQ_norm ?_ | refine endE_ret ?_ | refine endE_norm ?_ | refine endI_ret ?_ | refine endI_norm ?_)
            | (with_reducible refine wp_regK fun K hK => ?_
               simp[hg, hlt, hlt2, hw]
               repeat' (with_reducible first | refine hK _ ?_ | (refine psel ?_ ?_ <;> (intro hc; (try rw [Decidable.not_not] at hc); first | (exfalso; omega) | (try simp [hc, hg, hlt, hlt2, hw]))))
               all_goals (clear hK; clear K))
            | (with_reducible refine wp_condE ?_
               refine ⟨_, rfl, ?_, ?_⟩ <;> (intro hc; (try simp at hc); (all_goals first | (exfalso; omega) | skip))))
          all_goals first | (simp [pf60, valOkF, u1, u2, ← h2]; done) | (exfalso; omega) | skip
    · repeat' (first
        | with_reducible (first | refine wp_seq ?_ | refine wp_blk ?_ | refine wp_skip ?_ | refine wp_exit ?_ | refine wp_ret ?_ | refine seqQ_norm ?_ | refine seqQ_ret ?_ | refine seqQ_exit ?_ | refine blkQ_norm ?_ | refine blkQ_ret ?_ | refine blkQ_exit ?_ | refine loopQ_norm ?_ | refine loopQ_exit ?_ | refine loopQ_ret ?_ | refine endQ_ret ?_ | refine endQ_norm ?_ | refine endE_ret ?_ | refine endE_norm ?_ | refine endI_ret ?_ | refine endI_norm ?_)
        | (with_reducible refine wp_regK fun K hK => ?_
           simp[u1, u2]
           repeat' (with_reducible first | refine hK _ ?_ | (refine psel ?_ ?_ <;> (intro hc; (try rw [Decidable.not_not] at hc); first | (exfalso; omega) | (try simp [hc, u1, u2]))))
           all_goals (clear hK; clear K))
        | (with_reducible refine wp_condE ?_
           refine ⟨_, rfl, ?_, ?_⟩ <;> (intro hc; (try simp at hc); (all_goals first | (exfalso; omega) | skip))))
      all_goals first | (simp [pf60, valOkF, u1, u2]; done) | (exfalso; omega)

@[simp] theorem t341 (x_Ty : Int) (x_N : Int) (x_S : ByteArray) (h : x_S.size ≤ 1048576) : Gw TT 341 [.st [.ro false (di x_Ty), .ro false (di x_N), .ro false (.str x_S)]] = some (vb (valOkF x_Ty x_N x_S), []) := by
  refine Gw_of (F := pf341) rfl rfl ?_
  show Wp _ pb341 _ _
  unfold pb341
  by_cases u1 : x_Ty = 1
  · repeat' (first
      | with_reducible (first | refine wp_seq ?_ | refine wp_blk ?_ | refine wp_skip ?_ | refine wp_exit ?_ | refine wp_ret ?_ | refine seqQ_norm ?_ | refine seqQ_ret ?_ | refine seqQ_exit ?_ | refine blkQ_norm ?_ | refine blkQ_ret ?_ | refine blkQ_exit ?_ | refine loopQ_norm ?_ | refine loopQ_exit ?_ | refine loopQ_ret ?_ | refine endQ_ret ?_ | refine endQ_norm ?_ | refine endE_ret ?_ | refine endE_norm ?_ | refine endI_ret ?_ | refine endI_norm ?_)
      | (with_reducible refine wp_regK fun K hK => ?_
         simp[u1]
         repeat' (with_reducible first | refine hK _ ?_ | (refine psel ?_ ?_ <;> (intro hc; (try rw [Decidable.not_not] at hc); first | (exfalso; omega) | (try simp [hc, u1]))))
         all_goals (clear hK; clear K))
      | (with_reducible refine wp_condE ?_
         refine ⟨_, rfl, ?_, ?_⟩ <;> (intro hc; (try simp at hc); (all_goals first | (exfalso; omega) | skip))))
    all_goals first | (simp [pf341, valOkF, u1]; done) | (simp_all [pf341, valOkF]; done)
  · repeat' (first
      | with_reducible (first | refine wp_seq ?_ | refine wp_blk ?_ | refine wp_skip ?_ | refine wp_exit ?_ | refine wp_ret ?_ | refine seqQ_norm ?_ | refine seqQ_ret ?_ | refine seqQ_exit ?_ | refine blkQ_norm ?_ | refine blkQ_ret ?_ | refine blkQ_exit ?_ | refine loopQ_norm ?_ | refine loopQ_exit ?_ | refine loopQ_ret ?_ | refine endQ_ret ?_ | refine endQ_norm ?_ | refine endE_ret ?_ | refine endE_norm ?_ | refine endI_ret ?_ | refine endI_norm ?_)
      | (with_reducible refine wp_regK fun K hK => ?_
         simp[u1]
         repeat' (with_reducible first | refine hK _ ?_ | (refine psel ?_ ?_ <;> (intro hc; (try rw [Decidable.not_not] at hc); first | (exfalso; omega) | (try simp [hc, u1]))))
         all_goals (clear hK; clear K))
      | (with_reducible refine wp_condE ?_
         refine ⟨_, rfl, ?_, ?_⟩ <;> (intro hc; (try simp at hc); (all_goals first | (exfalso; omega) | skip))))
    refine wp_loopI (σ := List UInt8 × List UInt8) (fun s => [(1, AV.bx 1 0, some (Rt.bx [.ro false (di x_Ty), .ro false (di x_N), .ro false (.str x_S)])), (3, AV.v false (di ((s.1.length : Nat) : Int)), none)]) (fun s => x_S.toList = s.1 ++ s.2 ∧ textB s.2 = textB x_S.toList) (fun s => s.2.length) ([], x_S.toList) (by simp ) ⟨rfl, rfl⟩ ?_
    rintro ⟨pre, rest⟩ ⟨h1, h2⟩
    simp only at h1 h2
    have hl := bl_len x_S
    rw [h1, List.length_append] at hl
    rcases rest with _ | ⟨d, rest⟩
    · simp only [List.length_nil] at hl
      simp only [textB] at h2
      have hsz : (x_S.size : Int) = (pre.length : Int) := by omega
      unfold pl341_0
      by_cases q1 : pre.length ≤ 6
      · have q2 : x_S.size ≤ 6 := by omega
        have q3 : (pre.length : Int) ≤ 6 := by omega
        repeat' (first
          | with_reducible (first | refine wp_seq ?_ | refine wp_blk ?_ | refine wp_skip ?_ | refine wp_exit ?_ | refine wp_ret ?_ | refine seqQ_norm ?_ | refine seqQ_ret ?_ | refine seqQ_exit ?_ | refine blkQ_norm ?_ | refine blkQ_ret ?_ | refine blkQ_exit ?_ | refine loopQ_norm ?_ | refine loopQ_exit ?_ | refine loopQ_ret ?_ | refine endQ_ret ?_ | refine endQ_norm ?_ | refine endE_ret ?_ | refine endE_norm ?_ | refine endI_ret ?_ | refine endI_norm ?_)
          | (with_reducible refine wp_regK fun K hK => ?_
             simp[hsz, q1, q2, q3]
             repeat' (with_reducible first | refine hK _ ?_ | (refine psel ?_ ?_ <;> (intro hc; (try rw [Decidable.not_not] at hc); first | (exfalso; omega) | (try simp [hc, hsz, q1, q2, q3]))))
             all_goals (clear hK; clear K))
          | (with_reducible refine wp_condE ?_
             refine ⟨_, rfl, ?_, ?_⟩ <;> (intro hc; (try simp at hc); (all_goals first | (exfalso; omega) | skip))))
        all_goals first | (simp_all [pf341, valOkF]; done) | (by_cases z : x_N = 0 <;> simp_all [pf341, valOkF]; done) | (exfalso; omega) | skip
      · have q2 : ¬ x_S.size ≤ 6 := by omega
        have q3 : ¬ (pre.length : Int) ≤ 6 := by omega
        repeat' (first
          | with_reducible (first | refine wp_seq ?_ | refine wp_blk ?_ | refine wp_skip ?_ | refine wp_exit ?_ | refine wp_ret ?_ | refine seqQ_norm ?_ | refine seqQ_ret ?_ | refine seqQ_exit ?_ | refine blkQ_norm ?_ | refine blkQ_ret ?_ | refine blkQ_exit ?_ | refine loopQ_norm ?_ | refine loopQ_exit ?_ | refine loopQ_ret ?_ | refine endQ_ret ?_ | refine endQ_norm ?_ | refine endE_ret ?_ | refine endE_norm ?_ | refine endI_ret ?_ | refine endI_norm ?_)
          | (with_reducible refine wp_regK fun K hK => ?_
             simp[hsz, q1, q2, q3]
             repeat' (with_reducible first | refine hK _ ?_ | (refine psel ?_ ?_ <;> (intro hc; (try rw [Decidable.not_not] at hc); first | (exfalso; omega) | (try simp [hc, hsz, q1, q2, q3]))))
             all_goals (clear hK; clear K))
          | (with_reducible refine wp_condE ?_
             refine ⟨_, rfl, ?_, ?_⟩ <;> (intro hc; (try simp at hc); (all_goals first | (exfalso; omega) | skip))))
        all_goals first | (simp_all [pf341, valOkF]; done) | (by_cases z : x_N = 0 <;> simp_all [pf341, valOkF]; done) | (exfalso; omega) | skip
    · simp only [List.length_cons] at hl
      simp only [textB] at h2
      have hg : x_S.toList[pre.length]? = some d := by rw [h1]; simp
      have hlt : (pre.length : Int) < (x_S.size : Int) := by omega
      have hlt2 : pre.length < x_S.size := by omega
      have hw : IntKind.wrap .i64 ((pre.length : Int) + 1) = (pre.length : Int) + 1 := wrap_i64 (by omega) (by omega)
      have hwd : IntKind.wrap .i64 (d.toNat : Int) = (d.toNat : Int) := wrap_i64 (by omega) (by have := d.toNat_lt; omega)
      unfold pl341_0
      by_cases q1 : pre.length ≤ 6
      · have q3 : (pre.length : Int) ≤ 6 := by omega
        by_cases o : okc d = true
        · rw [if_pos o] at h2
          simp only [okc, decide_eq_true_eq] at o
          repeat' (first
            | with_reducible (first | refine wp_seq ?_ | refine wp_blk ?_ | refine wp_skip ?_ | refine wp_exit ?_ | refine wp_ret ?_ | refine seqQ_norm ?_ | refine seqQ_ret ?_ | refine seqQ_exit ?_ | refine blkQ_norm ?_ | refine blkQ_ret ?_ | refine blkQ_exit ?_ | refine loopQ_norm ?_ | refine loopQ_exit ?_ | refine loopQ_ret ?_ | refine endQ_ret ?_ | refine endQ_norm ?_ | refine endE_ret ?_ | refine endE_norm ?_ | refine endI_ret ?_ | refine endI_norm ?_)
            | (with_reducible refine wp_regK fun K hK => ?_
               simp[hg, hlt, hlt2, hw, hwd, q1, q3]
               repeat' (with_reducible first | refine hK _ ?_ | (refine psel ?_ ?_ <;> (intro hc; (try rw [Decidable.not_not] at hc); first | (exfalso; omega) | (try simp [hc, hg, hlt, hlt2, hw, hwd, q1, q3]))))
               all_goals (clear hK; clear K))
            | (with_reducible refine wp_condE ?_
               refine ⟨_, rfl, ?_, ?_⟩ <;> (intro hc; (try simp at hc); (all_goals first | (exfalso; omega) | skip))))
          all_goals first | exact ⟨(pre ++ [d], rest), by simp, ⟨by rw [h1]; simp, h2⟩, by simp⟩ | (exfalso; omega) | skip
        · rw [if_neg o] at h2
          have o2 := o
          simp only [okc, decide_eq_true_eq] at o2
          repeat' (first
            | with_reducible (first | refine wp_seq ?_ | refine wp_blk ?_ | refine wp_skip ?_ | refine wp_exit ?_ | refine wp_ret ?_ | refine seqQ_norm ?_ | refine seqQ_ret ?_ | refine seqQ_exit ?_ | refine blkQ_norm ?_ | refine blkQ_ret ?_ | refine blkQ_exit ?_ | refine loopQ_norm ?_ | refine loopQ_exit ?_ | refine loopQ_ret ?_ | refine endQ_ret ?_ | refine endQ_norm ?_ | refine endE_ret ?_ | refine endE_norm ?_ | refine endI_ret ?_ | refine endI_norm ?_)
            | (with_reducible refine wp_regK fun K hK => ?_
               simp[hg, hlt, hlt2, hw, hwd, q1, q3]
               repeat' (with_reducible first | refine hK _ ?_ | (refine psel ?_ ?_ <;> (intro hc; (try rw [Decidable.not_not] at hc); first | (exfalso; omega) | (try simp [hc, hg, hlt, hlt2, hw, hwd, q1, q3]))))
               all_goals (clear hK; clear K))
            | (with_reducible refine wp_condE ?_
               refine ⟨_, rfl, ?_, ?_⟩ <;> (intro hc; (try simp at hc); (all_goals first | (exfalso; omega) | skip))))
          all_goals first | (simp [pf341, valOkF, u1, ← h2]; done) | (exfalso; omega) | skip
      · have q3 : ¬ (pre.length : Int) ≤ 6 := by omega
        have q2 : ¬ x_S.size ≤ 6 := by omega
        have q4 : ¬ (x_S.size : Int) ≤ 6 := by omega
        repeat' (first
          | with_reducible (first | refine wp_seq ?_ | refine wp_blk ?_ | refine wp_skip ?_ | refine wp_exit ?_ | refine wp_ret ?_ | refine seqQ_norm ?_ | refine seqQ_ret ?_ | refine seqQ_exit ?_ | refine blkQ_norm ?_ | refine blkQ_ret ?_ | refine blkQ_exit ?_ | refine loopQ_norm ?_ | refine loopQ_exit ?_ | refine loopQ_ret ?_ | refine endQ_ret ?_ | refine endQ_norm ?_ | refine endE_ret ?_ | refine endE_norm ?_ | refine endI_ret ?_ | refine endI_norm ?_)
          | (with_reducible refine wp_regK fun K hK => ?_
             simp[hg, hlt, hlt2, hw, hwd, q1, q3, q4]
             repeat' (with_reducible first | refine hK _ ?_ | (refine psel ?_ ?_ <;> (intro hc; (try rw [Decidable.not_not] at hc); first | (exfalso; omega) | (try simp [hc, hg, hlt, hlt2, hw, hwd, q1, q3, q4]))))
             all_goals (clear hK; clear K))
          | (with_reducible refine wp_condE ?_
             refine ⟨_, rfl, ?_, ?_⟩ <;> (intro hc; (try simp at hc); (all_goals first | (exfalso; omega) | skip))))
        all_goals first | (simp [pf341, valOkF, u1, q2, q4, q3]; done) | (simp_all [pf341, valOkF]; done) | (exfalso; omega) | skip

def fitsL : List Int → List XVal → Bool
  | _, [] => true
  | [], _ :: _ => false
  | b :: bs, v :: l => if valOkF v.Ty v.N v.S = true ∧ v.Ty = b then fitsL bs l else false

def fitsF (cols : List Int) (l : List XVal) : Bool := decide (l.length = cols.length) && fitsL cols l

@[simp] theorem t19 (k0 k1 : Bool) (cols : List Int) (l : List XVal) (h : cols.length ≤ 1048576) (h5 : l.length ≤ 1048576) (hs : XVal.sms l) : Gw TT 19 [.one (.ro k0 (.sl 1 (cols.map ei))), .one (.ro k1 (.sl 3 (l.map XVal.e)))] = some (vb (fitsF cols l), []) := by
  refine Gw_of (F := pf19) rfl rfl ?_
  show Wp _ pb19 _ _
  unfold pb19
  by_cases y0 : l.length = cols.length
  · have y1 : (l.length : Int) = (cols.length : Int) := by omega
    repeat' (first
      | with_reducible (first | refine wp_seq ?_ | refine wp_blk ?_ | refine wp_skip ?_ | refine wp_exit ?_ | refine wp_ret ?_ | refine seqQ_norm ?_ | refine seqQ_ret ?_ | refine seqQ_exit ?_ | refine blkQ_norm ?_ | refine blkQ_ret ?_ | refine blkQ_exit ?_ | refine loopQ_norm ?_ | refine loopQ_exit ?_ | refine loopQ_ret ?_ | refine endQ_ret ?_ | refine endQ_norm ?_ | refine endE_ret ?_ | refine endE_norm ?_ | refine endI_ret ?_ | refine endI_norm ?_)
      | (with_reducible refine wp_regK fun K hK => ?_
         simp[y1]
         repeat' (with_reducible first | refine hK _ ?_ | (refine psel ?_ ?_ <;> (intro hc; (try rw [Decidable.not_not] at hc); first | (exfalso; omega) | (try simp [hc, y1]))))
         all_goals (clear hK; clear K))
      | (with_reducible refine wp_condE ?_
         refine ⟨_, rfl, ?_, ?_⟩ <;> (intro hc; (try simp at hc); (all_goals first | (exfalso; omega) | skip))))
    refine wp_loopI (σ := List Int × List Int × List XVal × List XVal) (fun s => [(0, AV.v k0 (D.sl 1 (cols.map ei)), none), (12, AV.v k1 (D.sl 3 (l.map XVal.e)), none), (13, AV.v false (di (l.length : Nat)), none), (14, AV.v false (di ((s.2.2.1.length : Nat) : Int)), none)]) (fun s => cols = s.1 ++ s.2.1 ∧ l = s.2.2.1 ++ s.2.2.2 ∧ s.1.length = s.2.2.1.length ∧ fitsL s.2.1 s.2.2.2 = fitsL cols l) (fun s => s.2.2.2.length) ([], cols, [], l) (by simp [y1]) ⟨rfl, rfl, rfl, rfl⟩ ?_
    rintro ⟨p1, r1, p2, r2⟩ ⟨h1, h2, h3, h4⟩
    simp only at h1 h2 h3 h4
    have y2 : cols.length = p1.length + r1.length := by rw [h1, List.length_append]
    have y3 : l.length = p2.length + r2.length := by rw [h2, List.length_append]
    rcases r2 with _ | ⟨d, r2⟩
    · simp only [List.length_nil] at y3
      simp only [fitsL] at h4
      have y4 : ¬ (p2.length : Int) < (l.length : Int) := by omega
      unfold pl19_0
      repeat' (first
        | with_reducible (first | refine wp_seq ?_ | refine wp_blk ?_ | refine wp_skip ?_ | refine wp_exit ?_ | refine wp_ret ?_ | refine seqQ_norm ?_ | refine seqQ_ret ?_ | refine seqQ_exit ?_ | refine blkQ_norm ?_ | refine blkQ_ret ?_ | refine blkQ_exit ?_ | refine loopQ_norm ?_ | refine loopQ_exit ?_ | refine loopQ_ret ?_ | refine endQ_ret ?_ | refine endQ_norm ?_ | refine endE_ret ?_ | refine endE_norm ?_ | refine endI_ret ?_ | refine endI_norm ?_)
        | (with_reducible refine wp_regK fun K hK => ?_
           simp[y4]
           repeat' (with_reducible first | refine hK _ ?_ | (refine psel ?_ ?_ <;> (intro hc; (try rw [Decidable.not_not] at hc); first | (exfalso; omega) | (try simp [hc, y4]))))
           all_goals (clear hK; clear K))
        | (with_reducible refine wp_condE ?_
           refine ⟨_, rfl, ?_, ?_⟩ <;> (intro hc; (try simp at hc); (all_goals first | (exfalso; omega) | skip))))
      all_goals first | (simp [pf19, fitsF, y0, ← h4]; done) | (exfalso; omega) | skip
    · rcases r1 with _ | ⟨b, r1⟩
      · simp only [List.length_nil, List.length_cons] at y2 y3; omega
      simp only [List.length_cons] at y2 y3
      have hd := hs d (by rw [h2]; simp)
      simp only [XVal.sm] at hd
      simp only [fitsL] at h4
      have hg1 : cols[p2.length]? = some b := by rw [h1, ← h3]; simp
      have hg2 : l[p2.length]? = some d := by rw [h2]; simp
      obtain ⟨hlt2, he1⟩ := List.getElem?_eq_some_iff.1 hg1
      obtain ⟨hlt, he2⟩ := List.getElem?_eq_some_iff.1 hg2
      have y4 : (p2.length : Int) < (l.length : Int) := by omega
      have y5 : (p2.length : Int) < (cols.length : Int) := by omega
      have hw : IntKind.wrap .i64 ((p2.length : Int) + 1) = (p2.length : Int) + 1 := wrap_i64 (by omega) (by omega)
      unfold pl19_0
      by_cases o1 : valOkF d.Ty d.N d.S = true
      · by_cases o2 : d.Ty = b
        · rw [if_pos ⟨o1, o2⟩] at h4
          have o3 : valOkF b d.N d.S = true := o2 ▸ o1
          repeat' (first
            | with_reducible (first | refine wp_seq ?_ | refine wp_blk ?_ | refine wp_skip ?_ | refine wp_exit ?_ | refine wp_ret ?_ | refine seqQ_norm ?_ | refine seqQ_ret ?_ | refine seqQ_exit ?_ | refine blkQ_norm ?_ | refine blkQ_ret ?_ | refine blkQ_exit ?_ | refine loopQ_norm ?_ | refine loopQ_exit ?_ | refine loopQ_ret ?_ | refine endQ_ret ?_ | refine endQ_norm ?_ | refine endE_ret ?_ | refine endE_norm ?_ | refine endI_ret ?_ | refine endI_norm ?_)
            | (with_reducible refine wp_regK fun K hK => ?_
               simp[hg1, hg2, he1, he2, hlt, hlt2, y4, y5, hw, hd, o1, o2, o3]
               repeat' (with_reducible first | refine hK _ ?_ | (refine psel ?_ ?_ <;> (intro hc; (try rw [Decidable.not_not] at hc); first | (exfalso; omega) | (try simp [hc, hg1, hg2, he1, he2, hlt, hlt2, y4, y5, hw, hd, o1, o2, o3]))))
               all_goals (clear hK; clear K))
            | (with_reducible refine wp_condE ?_
               refine ⟨_, rfl, ?_, ?_⟩ <;> (intro hc; (try simp at hc); (all_goals first | (exfalso; omega) | skip))))
          all_goals first | exact ⟨(p1 ++ [b], r1, p2 ++ [d], r2), by simp, ⟨by rw [h1]; simp, by rw [h2]; simp, by simp [h3], h4⟩, by simp⟩ | (exfalso; omega) | skip
        · rw [if_neg (fun q => o2 q.2)] at h4
          have o4 : (d.Ty == b) = false := by simpa using o2
          have o5 : (d.Ty != b) = true := by simpa using o2
          repeat' (first
            | with_reducible (first | refine wp_seq ?_ | refine wp_blk ?_ | refine wp_skip ?_ | refine wp_exit ?_ | refine wp_ret ?_ | refine seqQ_norm ?_ | refine seqQ_ret ?_ | refine seqQ_exit ?_ | refine blkQ_norm ?_ | refine blkQ_ret ?_ | refine blkQ_exit ?_ | refine loopQ_norm ?_ | refine loopQ_exit ?_ | refine loopQ_ret ?_ | refine endQ_ret ?_ | refine endQ_norm ?_ | refine endE_ret ?_ | refine endE_norm ?_ | refine endI_ret ?_ | refine endI_norm ?_)
            | (with_reducible refine wp_regK fun K hK => ?_
               simp[hg1, hg2, he1, he2, hlt, hlt2, y4, y5, hw, hd, o1, o4, o5]
               repeat' (with_reducible first | refine hK _ ?_ | (refine psel ?_ ?_ <;> (intro hc; (try rw [Decidable.not_not] at hc); first | (exfalso; omega) | (try simp [hc, hg1, hg2, he1, he2, hlt, hlt2, y4, y5, hw, hd, o1, o4, o5]))))
               all_goals (clear hK; clear K))
            | (with_reducible refine wp_condE ?_
               refine ⟨_, rfl, ?_, ?_⟩ <;> (intro hc; (try simp at hc); (all_goals first | (exfalso; omega) | skip))))
          all_goals first | (simp [pf19, fitsF, y0, ← h4]; done) | (exfalso; omega) | skip
      · rw [if_neg (fun q => o1 q.1)] at h4
        have o3 : valOkF d.Ty d.N d.S = false := by simpa using o1
        repeat' (first
          | with_reducible (first | refine wp_seq ?_ | refine wp_blk ?_ | refine wp_skip ?_ | refine wp_exit ?_ | refine wp_ret ?_ | refine seqQ_norm ?_ | refine seqQ_ret ?_ | refine seqQ_exit ?_ | refine blkQ_norm ?_ | refine blkQ_ret ?_ | refine blkQ_exit ?_ | refine loopQ_norm ?_ | refine loopQ_exit ?_ | refine loopQ_ret ?_ | refine endQ_ret ?_ | refine endQ_norm ?_ | refine endE_ret ?_ | refine endE_norm ?_ | refine endI_ret ?_ | refine endI_norm ?_)
          | (with_reducible refine wp_regK fun K hK => ?_
             simp[hg1, hg2, he1, he2, hlt, hlt2, y4, y5, hw, hd, o3]
             repeat' (with_reducible first | refine hK _ ?_ | (refine psel ?_ ?_ <;> (intro hc; (try rw [Decidable.not_not] at hc); first | (exfalso; omega) | (try simp [hc, hg1, hg2, he1, he2, hlt, hlt2, y4, y5, hw, hd, o3]))))
             all_goals (clear hK; clear K))
          | (with_reducible refine wp_condE ?_
             refine ⟨_, rfl, ?_, ?_⟩ <;> (intro hc; (try simp at hc); (all_goals first | (exfalso; omega) | skip))))
        all_goals first | (simp [pf19, fitsF, y0, ← h4]; done) | (exfalso; omega) | skip
  · have y1 : ¬ (l.length : Int) = (cols.length : Int) := by omega
    have y2 : ¬ (cols.length : Int) = (l.length : Int) := by omega
    repeat' (first
      | with_reducible (first | refine wp_seq ?_ | refine wp_blk ?_ | refine wp_skip ?_ | refine wp_exit ?_ | refine wp_ret ?_ | refine seqQ_norm ?_ | refine seqQ_ret ?_ | refine seqQ_exit ?_ | refine blkQ_norm ?_ | refine blkQ_ret ?_ | refine blkQ_exit ?_ | refine loopQ_norm ?_ | refine loopQ_exit ?_ | refine loopQ_ret ?_ | refine endQ_ret ?_ | refine endQ_norm ?_ | refine endE_ret ?_ | refine endE_norm ?_ | refine endI_ret ?_ | refine endI_norm ?_)
      | (with_reducible refine wp_loop (c := pl19_0) ?_
         conv => arg 2; unfold pl19_0)
      | (with_reducible refine wp_regK fun K hK => ?_
         simp[y1, y2]
         repeat' (with_reducible first | refine hK _ ?_ | (refine psel ?_ ?_ <;> (intro hc; (try rw [Decidable.not_not] at hc); first | (exfalso; omega) | (try simp [hc, y1, y2]))))
         all_goals (clear hK; clear K))
      | (with_reducible refine wp_condE ?_
         refine ⟨_, rfl, ?_, ?_⟩ <;> (intro hc; (try simp at hc); (all_goals first | (exfalso; omega) | skip))))
    all_goals first | (simp [pf19, fitsF, y0]; done) | (exfalso; omega) | skip

@[simp] theorem t298 (k0 k1 : Bool) (cols : List Int) (l : List XVal) (h : cols.length ≤ 1048576) (h5 : l.length ≤ 1048576) (hs : XVal.sms l) : Gw TT 298 [.one (.ro k0 (.sl 1 (cols.map ei))), .one (.ro k1 (.sl 3 (l.map XVal.e)))] = some (vb (fitsF cols l), []) := by
  refine Gw_of (F := pf298) rfl rfl ?_
  show Wp _ pb298 _ _
  unfold pb298
  by_cases y0 : l.length = cols.length
  · have y1 : (l.length : Int) = (cols.length : Int) := by omega
    repeat' (first
      | with_reducible (first | refine wp_seq ?_ | refine wp_blk ?_ | refine wp_skip ?_ | refine wp_exit ?_ | refine wp_ret ?_ | refine seqQ_norm ?_ | refine seqQ_ret ?_ | refine seqQ_exit ?_ | refine blkQ_norm ?_ | refine blkQ_ret ?_ | refine blkQ_exit ?_ | refine loopQ_norm ?_ | refine loopQ_exit ?_ | refine loopQ_ret ?_ | refine endQ_ret ?_ | refine endQ_norm ?_ | refine endE_ret ?_ | refine endE_norm ?_ | refine endI_ret ?_ | refine endI_norm ?_)
      | (with_reducible refine wp_regK fun K hK => ?_
         simp[y1]
         repeat' (with_reducible first | refine hK _ ?_ | (refine psel ?_ ?_ <;> (intro hc; (try rw [Decidable.not_not] at hc); first | (exfalso; omega) | (try simp [hc, y1]))))
         all_goals (clear hK; clear K))
      | (with_reducible refine wp_condE ?_
         refine ⟨_, rfl, ?_, ?_⟩ <;> (intro hc; (try simp at hc); (all_goals first | (exfalso; omega) | skip))))
    refine wp_loopI (σ := List Int × List Int × List XVal × List XVal) (fun s => [(0, AV.v k0 (D.sl 1 (cols.map ei)), none), (1, AV.v k1 (D.sl 3 (l.map XVal.e)), none), (5, AV.v false (di ((s.2.2.1.length : Nat) : Int)), none)]) (fun s => cols = s.1 ++ s.2.1 ∧ l = s.2.2.1 ++ s.2.2.2 ∧ s.1.length = s.2.2.1.length ∧ fitsL s.2.1 s.2.2.2 = fitsL cols l) (fun s => s.2.2.2.length) ([], cols, [], l) (by simp [y1]) ⟨rfl, rfl, rfl, rfl⟩ ?_
    rintro ⟨p1, r1, p2, r2⟩ ⟨h1, h2, h3, h4⟩
    simp only at h1 h2 h3 h4
    have y2 : cols.length = p1.length + r1.length := by rw [h1, List.length_append]
    have y3 : l.length = p2.length + r2.length := by rw [h2, List.length_append]
    rcases r2 with _ | ⟨d, r2⟩
    · simp only [List.length_nil] at y3
      simp only [fitsL] at h4
      have y4 : ¬ (p2.length : Int) < (l.length : Int) := by omega
      unfold pl298_0
      repeat' (first
        | with_reducible (first | refine wp_seq ?_ | refine wp_blk ?_ | refine wp_skip ?_ | refine wp_exit ?_ | refine wp_ret ?_ | refine seqQ_norm ?_ | refine seqQ_ret ?_ | refine seqQ_exit ?_ | refine blkQ_norm ?_ | refine blkQ_ret ?_ | refine blkQ_exit ?_ | refine loopQ_norm ?_ | refine loopQ_exit ?_ | refine loopQ_ret ?_ | refine endQ_ret ?_ | refine endQ_norm ?_ | refine endE_ret ?_ | refine endE_norm ?_ | refine endI_ret ?_ | refine endI_norm ?_)
        | (with_reducible refine wp_regK fun K hK => ?_
           simp[y4]
           repeat' (with_reducible first | refine hK _ ?_ | (refine psel ?_ ?_ <;> (intro hc; (try rw [Decidable.not_not] at hc); first | (exfalso; omega) | (try simp [hc, y4]))))
           all_goals (clear hK; clear K))
        | (with_reducible refine wp_condE ?_
           refine ⟨_, rfl, ?_, ?_⟩ <;> (intro hc; (try simp at hc); (all_goals first | (exfalso; omega) | skip))))
      all_goals first | (simp [pf298, fitsF, y0, ← h4]; done) | (exfalso; omega) | skip
    · rcases r1 with _ | ⟨b, r1⟩
      · simp only [List.length_nil, List.length_cons] at y2 y3; omega
      simp only [List.length_cons] at y2 y3
      have hd := hs d (by rw [h2]; simp)
      simp only [XVal.sm] at hd
      simp only [fitsL] at h4
      have hg1 : cols[p2.length]? = some b := by rw [h1, ← h3]; simp
      have hg2 : l[p2.length]? = some d := by rw [h2]; simp
      obtain ⟨hlt2, he1⟩ := List.getElem?_eq_some_iff.1 hg1
      obtain ⟨hlt, he2⟩ := List.getElem?_eq_some_iff.1 hg2
      have y4 : (p2.length : Int) < (l.length : Int) := by omega
      have y5 : (p2.length : Int) < (cols.length : Int) := by omega
      have hw : IntKind.wrap .i64 ((p2.length : Int) + 1) = (p2.length : Int) + 1 := wrap_i64 (by omega) (by omega)
      unfold pl298_0
      by_cases o1 : valOkF d.Ty d.N d.S = true
      · by_cases o2 : d.Ty = b
        · rw [if_pos ⟨o1, o2⟩] at h4
          have o3 : valOkF b d.N d.S = true := o2 ▸ o1
          repeat' (first
            | with_reducible (first | refine wp_seq ?_ | refine wp_blk ?_ | refine wp_skip ?_ | refine wp_exit ?_ | refine wp_ret ?_ | refine seqQ_norm ?_ | refine seqQ_ret ?_ | refine seqQ_exit ?_ | refine blkQ_norm ?_ | refine blkQ_ret ?_ | refine blkQ_exit ?_ | refine loopQ_norm ?_ | refine loopQ_exit ?_ | refine loopQ_ret ?_ | refine endQ_ret ?_ | refine endQ_norm ?_ | refine endE_ret ?_ | refine endE_norm ?_ | refine endI_ret ?_ | refine endI_norm ?_)
            | (with_reducible refine wp_regK fun K hK => ?_
               simp[hg1, hg2, he1, he2, hlt, hlt2, y4, y5, hw, hd, o1, o2, o3]
               repeat' (with_reducible first | refine hK _ ?_ | (refine psel ?_ ?_ <;> (intro hc; (try rw [Decidable.not_not] at hc); first | (exfalso; omega) | (try simp [hc, hg1, hg2, he1, he2, hlt, hlt2, y4, y5, hw, hd, o1, o2, o3]))))
               all_goals (clear hK; clear K))
            | (with_reducible refine wp_condE ?_
               refine ⟨_, rfl, ?_, ?_⟩ <;> (intro hc; (try simp at hc); (all_goals first | (exfalso; omega) | skip))))
          all_goals first | exact ⟨(p1 ++ [b], r1, p2 ++ [d], r2), by simp, ⟨by rw [h1]; simp, by rw [h2]; simp, by simp [h3], h4⟩, by simp⟩ | (exfalso; omega) | skip
        · rw [if_neg (fun q => o2 q.2)] at h4
          have o4 : (d.Ty == b) = false := by simpa using o2
          have o5 : (d.Ty != b) = true := by simpa using o2
          repeat' (first
            | with_reducible (first | refine wp_seq ?_ | refine wp_blk ?_ | refine wp_skip ?_ | refine wp_exit ?_ | refine wp_ret ?_ | refine seqQ_norm ?_ | refine seqQ_ret ?_ | refine seqQ_exit ?_ | refine blkQ_norm ?_ | refine blkQ_ret ?_ | refine blkQ_exit ?_ | refine loopQ_norm ?_ | refine loopQ_exit ?_ | refine loopQ_ret ?_ | refine endQ_ret ?_ | refine endQ_norm ?_ | refine endE_ret ?_ | refine endE_norm ?_ | refine endI_ret ?_ | refine endI_norm ?_)
            | (with_reducible refine wp_regK fun K hK => ?_
               simp[hg1, hg2, he1, he2, hlt, hlt2, y4, y5, hw, hd, o1, o4, o5]
               repeat' (with_reducible first | refine hK _ ?_ | (refine psel ?_ ?_ <;> (intro hc; (try rw [Decidable.not_not] at hc); first | (exfalso; omega) | (try simp [hc, hg1, hg2, he1, he2, hlt, hlt2, y4, y5, hw, hd, o1, o4, o5]))))
               all_goals (clear hK; clear K))
            | (with_reducible refine wp_condE ?_
               refine ⟨_, rfl, ?_, ?_⟩ <;> (intro hc; (try simp at hc); (all_goals first | (exfalso; omega) | skip))))
          all_goals first | (simp [pf298, fitsF, y0, ← h4]; done) | (exfalso; omega) | skip
      · rw [if_neg (fun q => o1 q.1)] at h4
        have o3 : valOkF d.Ty d.N d.S = false := by simpa using o1
        repeat' (first
          | with_reducible (first | refine wp_seq ?_ | refine wp_blk ?_ | refine wp_skip ?_ | refine wp_exit ?_ | refine wp_ret ?_ | refine seqQ_norm ?_ | refine seqQ_ret ?_ | refine seqQ_exit ?_ | refine blkQ_norm ?_ | refine blkQ_ret ?_ | refine blkQ_exit ?_ | refine loopQ_norm ?_ | refine loopQ_exit ?_ | refine loopQ_ret ?_ | refine endQ_ret ?_ | refine endQ_norm ?_ | refine endE_ret ?_ | refine endE_norm ?_ | refine endI_ret ?_ | refine endI_norm ?_)
          | (with_reducible refine wp_regK fun K hK => ?_
             simp[hg1, hg2, he1, he2, hlt, hlt2, y4, y5, hw, hd, o3]
             repeat' (with_reducible first | refine hK _ ?_ | (refine psel ?_ ?_ <;> (intro hc; (try rw [Decidable.not_not] at hc); first | (exfalso; omega) | (try simp [hc, hg1, hg2, he1, he2, hlt, hlt2, y4, y5, hw, hd, o3]))))
             all_goals (clear hK; clear K))
          | (with_reducible refine wp_condE ?_
             refine ⟨_, rfl, ?_, ?_⟩ <;> (intro hc; (try simp at hc); (all_goals first | (exfalso; omega) | skip))))
        all_goals first | (simp [pf298, fitsF, y0, ← h4]; done) | (exfalso; omega) | skip
  · have y1 : ¬ (l.length : Int) = (cols.length : Int) := by omega
    have y2 : ¬ (cols.length : Int) = (l.length : Int) := by omega
    repeat' (first
      | with_reducible (first | refine wp_seq ?_ | refine wp_blk ?_ | refine wp_skip ?_ | refine wp_exit ?_ | refine wp_ret ?_ | refine seqQ_norm ?_ | refine seqQ_ret ?_ | refine seqQ_exit ?_ | refine blkQ_norm ?_ | refine blkQ_ret ?_ | refine blkQ_exit ?_ | refine loopQ_norm ?_ | refine loopQ_exit ?_ | refine loopQ_ret ?_ | refine endQ_ret ?_ | refine endQ_norm ?_ | refine endE_ret ?_ | refine endE_norm ?_ | refine endI_ret ?_ | refine endI_norm ?_)
      | (with_reducible refine wp_loop (c := pl298_0) ?_
         conv => arg 2; unfold pl298_0)
      | (with_reducible refine wp_regK fun K hK => ?_
         simp[y1, y2]
         repeat' (with_reducible first | refine hK _ ?_ | (refine psel ?_ ?_ <;> (intro hc; (try rw [Decidable.not_not] at hc); first | (exfalso; omega) | (try simp [hc, y1, y2]))))
         all_goals (clear hK; clear K))
      | (with_reducible refine wp_condE ?_
         refine ⟨_, rfl, ?_, ?_⟩ <;> (intro hc; (try simp at hc); (all_goals first | (exfalso; omega) | skip))))
    all_goals first | (simp [pf298, fitsF, y0]; done) | (exfalso; omega) | skip

def okSlot (cols : List Int) (nx i : Int) (d : XSlot) : Bool := decide (-1 ≤ d.Ins) && (if d.Ins = 0 then decide (d.L = []) else decide (i < nx) && fitsF cols d.L)

def slotsF (cols : List Int) (nx : Int) : Int → List XSlot → Bool
  | _, [] => true
  | i, d :: l => if okSlot cols nx i d = true then slotsF cols nx (i + 1) l else false

def chunkOkF (cols : List Int) (nx : Int) (l : List XSlot) : Bool := decide (1 ≤ (l.length : Int) ∧ (l.length : Int) ≤ 4) && (decide (0 ≤ nx ∧ nx ≤ (l.length : Int)) && slotsF cols nx 0 l)

@[simp] theorem t8 (n : Int) : Gw TT 8 [vi n] = some (vb (decide (-1 ≤ n)), []) := by
  refine Gw_of (F := pf8) rfl rfl ?_
  show Wp _ pb8 _ _
  unfold pb8
  repeat' (first
    | with_reducible (first | refine wp_seq ?_ | refine wp_blk ?_ | refine wp_skip ?_ | refine wp_exit ?_ | refine wp_ret ?_ | refine seqQ_norm ?_ | refine seqQ_ret ?_ | refine seqQ_exit ?_ | refine blkQ_norm ?_ | refine blkQ_ret ?_ | refine blkQ_exit ?_ | refine loopQ_norm ?_ | refine loopQ_exit ?_ | refine loopQ_ret ?_ | refine endQ_ret ?_ | refine endQ_norm ?_ | refine endE_ret ?_ | refine endE_norm ?_ | refine endI_ret ?_ | refine endI_norm ?_)
    | (with_reducible refine wp_regK fun K hK => ?_
       simp
       repeat' (with_reducible first | refine hK _ ?_ | (refine psel ?_ ?_ <;> (intro hc; (try rw [Decidable.not_not] at hc); first | (exfalso; omega) | (try simp [hc]))))
       all_goals (clear hK; clear K))
    | (with_reducible refine wp_condE ?_
       refine ⟨_, rfl, ?_, ?_⟩ <;> (intro hc; (try simp at hc); (all_goals first | (exfalso; omega) | skip))))
  all_goals first | (simp [pf8]; done) | (simp_all [pf8]; done)

@[simp] theorem t264 (n : Int) : Gw TT 264 [vi n] = some (vb (decide (-1 ≤ n)), []) := by
  refine Gw_of (F := pf264) rfl rfl ?_
  show Wp _ pb264 _ _
  unfold pb264
  repeat' (first
    | with_reducible (first | refine wp_seq ?_ | refine wp_blk ?_ | refine wp_skip ?_ | refine wp_exit ?_ | refine wp_ret ?_ | refine seqQ_norm ?_ | refine seqQ_ret ?_ | refine seqQ_exit ?_ | refine blkQ_norm ?_ | refine blkQ_ret ?_ | refine blkQ_exit ?_ | refine loopQ_norm ?_ | refine loopQ_exit ?_ | refine loopQ_ret ?_ | refine endQ_ret ?_ | refine endQ_norm ?_ | refine endE_ret ?_ | refine endE_norm ?_ | refine endI_ret ?_ | refine endI_norm ?_)
    | (with_reducible refine wp_regK fun K hK => ?_
       simp
       repeat' (with_reducible first | refine hK _ ?_ | (refine psel ?_ ?_ <;> (intro hc; (try rw [Decidable.not_not] at hc); first | (exfalso; omega) | (try simp [hc]))))
       all_goals (clear hK; clear K))
    | (with_reducible refine wp_condE ?_
       refine ⟨_, rfl, ?_, ?_⟩ <;> (intro hc; (try simp at hc); (all_goals first | (exfalso; omega) | skip))))
  all_goals first | (simp [pf264]; done) | (simp_all [pf264]; done)

@[simp] theorem t10 (k0 : Bool) (cols : List Int) (h : cols.length ≤ 1048576) (k1 : Bool) (x_Next : Int) (x_L : List XSlot) (h5 : x_L.length ≤ 1048576) (hs : XSlot.sms x_L) : Gw TT 10 [.one (.ro k0 (.sl 1 (cols.map ei))), .st [.ro false (di x_Next), .ro k1 (.sl 2 (x_L.map XSlot.e))]] = some (vb (chunkOkF cols x_Next x_L), []) := by
  refine Gw_of (F := pf10) rfl rfl ?_
  show Wp _ pb10 _ _
  unfold pb10
  by_cases b1 : 1 ≤ (x_L.length : Int) ∧ (x_L.length : Int) ≤ 4
  · by_cases b2 : 0 ≤ x_Next ∧ x_Next ≤ (x_L.length : Int)
    · obtain ⟨n1, n2⟩ := b1
      obtain ⟨n3, n4⟩ := b2
      repeat' (first
        | with_reducible (first | refine wp_seq ?_ | refine wp_blk ?_ | refine wp_skip ?_ | refine wp_exit ?_ | refine wp_ret ?_ | refine seqQ_norm ?_ | refine seqQ_ret ?_ | refine seqQ_exit ?_ | refine blkQ_norm ?_ | refine blkQ_ret ?_ | refine blkQ_exit ?_ | refine loopQ_norm ?_ | refine loopQ_exit ?_ | refine loopQ_ret ?_ | refine endQ_ret ?_ | refine endQ_norm ?_ | refine endE_ret ?_ | refine endE_norm ?_ | refine endI_ret ?_ | refine endI_norm ?_)
        | (with_reducible refine wp_regK fun K hK => ?_
           simp[n1, n2, n3, n4]
           repeat' (with_reducible first | refine hK _ ?_ | (refine psel ?_ ?_ <;> (intro hc; (try rw [Decidable.not_not] at hc); first | (exfalso; omega) | (try simp [hc, n1, n2, n3, n4]))))
           all_goals (clear hK; clear K))
        | (with_reducible refine wp_condE ?_
           refine ⟨_, rfl, ?_, ?_⟩ <;> (intro hc; (try simp at hc); (all_goals first | (exfalso; omega) | skip))))
      refine wp_loopI (σ := List XSlot × List XSlot) (fun s => [(0, AV.v k0 (D.sl 1 (cols.map ei)), none), (3, AV.bx 3 0, some (Rt.bx [.ro false (di x_Next), .ro k1 (.sl 2 (x_L.map XSlot.e))])), (22, AV.v k1 (D.sl 2 (x_L.map XSlot.e)), none), (23, AV.v false (di (x_L.length : Nat)), none), (24, AV.v false (di ((s.1.length : Nat) : Int)), none)]) (fun s => x_L = s.1 ++ s.2 ∧ slotsF cols x_Next (s.1.length : Nat) s.2 = slotsF cols x_Next 0 x_L) (fun s => s.2.length) ([], x_L) (by simp) ⟨rfl, rfl⟩ ?_
      rintro ⟨p2, r2⟩ ⟨h2, h4⟩
      simp only at h2 h4
      have y3 : x_L.length = p2.length + r2.length := by rw [h2, List.length_append]
      rcases r2 with _ | ⟨d, r2⟩
      · simp only [List.length_nil] at y3
        simp only [slotsF] at h4
        have y4 : ¬ (p2.length : Int) < (x_L.length : Int) := by omega
        have y6 : (p2.length : Int) = (x_L.length : Int) := by omega
        unfold pl10_0
        repeat' (first
          | with_reducible (first | refine wp_seq ?_ | refine wp_blk ?_ | refine wp_skip ?_ | refine wp_exit ?_ | refine wp_ret ?_ | refine seqQ_norm ?_ | refine seqQ_ret ?_ | refine seqQ_exit ?_ | refine blkQ_norm ?_ | refine blkQ_ret ?_ | refine blkQ_exit ?_ | refine loopQ_norm ?_ | refine loopQ_exit ?_ | refine loopQ_ret ?_ | refine endQ_ret ?_ | refine endQ_norm ?_ | refine endE_ret ?_ | refine endE_norm ?_ | refine endI_ret ?_ | refine endI_norm ?_)
          | (with_reducible refine wp_regK fun K hK => ?_
             simp[y4, y6]
             repeat' (with_reducible first | refine hK _ ?_ | (refine psel ?_ ?_ <;> (intro hc; (try rw [Decidable.not_not] at hc); first | (exfalso; omega) | (try simp [hc, y4, y6]))))
             all_goals (clear hK; clear K))
          | (with_reducible refine wp_condE ?_
             refine ⟨_, rfl, ?_, ?_⟩ <;> (intro hc; (try simp at hc); (all_goals first | (exfalso; omega) | skip))))
        all_goals first | (simp [pf10, chunkOkF, n1, n2, n3, n4, ← h4]; done) | (exfalso; omega) | skip
      · simp only [List.length_cons] at y3
        have hd := hs d (by rw [h2]; simp)
        simp only [XSlot.sm] at hd
        obtain ⟨hd1, hd2⟩ := hd
        simp only [slotsF] at h4
        have hg2 : x_L[p2.length]? = some d := by rw [h2]; simp
        obtain ⟨hlt, he2⟩ := List.getElem?_eq_some_iff.1 hg2
        have y4 : (p2.length : Int) < (x_L.length : Int) := by omega
        have hw : IntKind.wrap .i64 ((p2.length : Int) + 1) = (p2.length : Int) + 1 := wrap_i64 (by omega) (by omega)
        unfold pl10_0
        by_cases g1 : -1 ≤ d.Ins
        · by_cases g2 : d.Ins = 0
          · by_cases g3 : d.L = []
            · have o : okSlot cols x_Next (p2.length : Nat) d = true := by simp [okSlot, g2, g3]
              rw [if_pos o] at h4
              repeat' (first
                | with_reducible (first | refine wp_seq ?_ | refine wp_blk ?_ | refine wp_skip ?_ | refine wp_exit ?_ | refine wp_ret ?_ | refine seqQ_norm ?_ | refine seqQ_ret ?_ | refine seqQ_exit ?_ | refine blkQ_norm ?_ | refine blkQ_ret ?_ | refine blkQ_exit ?_ | refine loopQ_norm ?_ | refine loopQ_exit ?_ | refine loopQ_ret ?_ | refine endQ_ret ?_ | refine endQ_norm ?_ | refine endE_ret ?_ | refine endE_norm ?_ | refine endI_ret ?_ | refine endI_norm ?_)
                | (with_reducible refine wp_regK fun K hK => ?_
                   simp[hg2, he2, hlt, y4, hw, hd1, hd2, h, g2, g3]
                   repeat' (with_reducible first | refine hK _ ?_ | (refine psel ?_ ?_ <;> (intro hc; (try rw [Decidable.not_not] at hc); first | (exfalso; omega) | (try simp [hc, hg2, he2, hlt, y4, hw, hd1, hd2, h, g2, g3]))))
                   all_goals (clear hK; clear K))
                | (with_reducible refine wp_condE ?_
                   refine ⟨_, rfl, ?_, ?_⟩ <;> (intro hc; (try simp at hc); (all_goals first | (exfalso; omega) | skip))))
              all_goals first | exact ⟨(p2 ++ [d], r2), by simp, ⟨by rw [h2]; simp, by simpa using h4⟩, by simp⟩ | (exfalso; omega) | skip
            · have g3l := List.length_pos_iff.2 g3
              have o : ¬ okSlot cols x_Next (p2.length : Nat) d = true := by simp [okSlot, g2, g3]
              rw [if_neg o] at h4
              repeat' (first
                | with_reducible (first | refine wp_seq ?_ | refine wp_blk ?_ | refine wp_skip ?_ | refine wp_exit ?_ | refine wp_ret ?_ | refine seqQ_norm ?_ | refine seqQ_ret ?_ | refine seqQ_exit ?_ | refine blkQ_norm ?_ | refine blkQ_ret ?_ | refine blkQ_exit ?_ | refine loopQ_norm ?_ | refine loopQ_exit ?_ | refine loopQ_ret ?_ | refine endQ_ret ?_ | refine endQ_norm ?_ | refine endE_ret ?_ | refine endE_norm ?_ | refine endI_ret ?_ | refine endI_norm ?_)
                | (with_reducible refine wp_regK fun K hK => ?_
                   simp[hg2, he2, hlt, y4, hw, hd1, hd2, h, g2, g3]
                   repeat' (with_reducible first | refine hK _ ?_ | (refine psel ?_ ?_ <;> (intro hc; (try rw [Decidable.not_not] at hc); first | (exfalso; omega) | (try simp [hc, hg2, he2, hlt, y4, hw, hd1, hd2, h, g2, g3]))))
                   all_goals (clear hK; clear K))
                | (with_reducible refine wp_condE ?_
                   refine ⟨_, rfl, ?_, ?_⟩ <;> (intro hc; (try simp at hc); (all_goals first | (exfalso; omega) | skip))))
              all_goals first | (simp [pf10, chunkOkF, n1, n2, n3, n4, ← h4]; done) | (exfalso; omega) | skip
          · by_cases g4 : (p2.length : Int) < x_Next
            · by_cases g5 : fitsF cols d.L = true
              · have o : okSlot cols x_Next (p2.length : Nat) d = true := by simp [okSlot, g1, g2, g4, g5]
                rw [if_pos o] at h4
                repeat' (first
                  | with_reducible (first | refine wp_seq ?_ | refine wp_blk ?_ | refine wp_skip ?_ | refine wp_exit ?_ | refine wp_ret ?_ | refine seqQ_norm ?_ | refine seqQ_ret ?_ | refine seqQ_exit ?_ | refine blkQ_norm ?_ | refine blkQ_ret ?_ | refine blkQ_exit ?_ | refine loopQ_norm ?_ | refine loopQ_exit ?_ | refine loopQ_ret ?_ | refine endQ_ret ?_ | refine endQ_norm ?_ | refine endE_ret ?_ | refine endE_norm ?_ | refine endI_ret ?_ | refine endI_norm ?_)
                  | (with_reducible refine wp_regK fun K hK => ?_
                     simp[hg2, he2, hlt, y4, hw, hd1, hd2, h, g1, g2, g4, g5]
                     repeat' (with_reducible first | refine hK _ ?_ | (refine psel ?_ ?_ <;> (intro hc; (try rw [Decidable.not_not] at hc); first | (exfalso; omega) | (try simp [hc, hg2, he2, hlt, y4, hw, hd1, hd2, h, g1, g2, g4, g5]))))
                     all_goals (clear hK; clear K))
                  | (with_reducible refine wp_condE ?_
                     refine ⟨_, rfl, ?_, ?_⟩ <;> (intro hc; (try simp at hc); (all_goals first | (exfalso; omega) | skip))))
                all_goals first | exact ⟨(p2 ++ [d], r2), by simp, ⟨by rw [h2]; simp, by simpa using h4⟩, by simp⟩ | (exfalso; omega) | skip
              · have g5f : fitsF cols d.L = false := by simpa using g5
                have o : ¬ okSlot cols x_Next (p2.length : Nat) d = true := by simp [okSlot, g1, g2, g4, g5f]
                rw [if_neg o] at h4
                repeat' (first
                  | with_reducible (first | refine wp_seq ?_ | refine wp_blk ?_ | refine wp_skip ?_ | refine wp_exit ?_ | refine wp_ret ?_ | refine seqQ_norm ?_ | refine seqQ_ret ?_ | refine seqQ_exit ?_ | refine blkQ_norm ?_ | refine blkQ_ret ?_ | refine blkQ_exit ?_ | refine loopQ_norm ?_ | refine loopQ_exit ?_ | refine loopQ_ret ?_ | refine endQ_ret ?_ | refine endQ_norm ?_ | refine endE_ret ?_ | refine endE_norm ?_ | refine endI_ret ?_ | refine endI_norm ?_)
                  | (with_reducible refine wp_regK fun K hK => ?_
                     simp[hg2, he2, hlt, y4, hw, hd1, hd2, h, g1, g2, g4, g5f]
                     repeat' (with_reducible first | refine hK _ ?_ | (refine psel ?_ ?_ <;> (intro hc; (try rw [Decidable.not_not] at hc); first | (exfalso; omega) | (try simp [hc, hg2, he2, hlt, y4, hw, hd1, hd2, h, g1, g2, g4, g5f]))))
                     all_goals (clear hK; clear K))
                  | (with_reducible refine wp_condE ?_
                     refine ⟨_, rfl, ?_, ?_⟩ <;> (intro hc; (try simp at hc); (all_goals first | (exfalso; omega) | skip))))
                all_goals first | (simp [pf10, chunkOkF, n1, n2, n3, n4, ← h4]; done) | (exfalso; omega) | skip
            · have o : ¬ okSlot cols x_Next (p2.length : Nat) d = true := by simp [okSlot, g1, g2, g4]
              rw [if_neg o] at h4
              repeat' (first
                | with_reducible (first | refine wp_seq ?_ | refine wp_blk ?_ | refine wp_skip ?_ | refine wp_exit ?_ | refine wp_ret ?_ | refine seqQ_norm ?_ | refine seqQ_ret ?_ | refine seqQ_exit ?_ | refine blkQ_norm ?_ | refine blkQ_ret ?_ | refine blkQ_exit ?_ | refine loopQ_norm ?_ | refine loopQ_exit ?_ | refine loopQ_ret ?_ | refine endQ_ret ?_ | refine endQ_norm ?_ | refine endE_ret ?_ | refine endE_norm ?_ | refine endI_ret ?_ | refine endI_norm ?_)
                | (with_reducible refine wp_regK fun K hK => ?_
                   simp[hg2, he2, hlt, y4, hw, hd1, hd2, h, g1, g2, g4]
                   repeat' (with_reducible first | refine hK _ ?_ | (refine psel ?_ ?_ <;> (intro hc; (try rw [Decidable.not_not] at hc); first | (exfalso; omega) | (try simp [hc, hg2, he2, hlt, y4, hw, hd1, hd2, h, g1, g2, g4]))))
                   all_goals (clear hK; clear K))
                | (with_reducible refine wp_condE ?_
                   refine ⟨_, rfl, ?_, ?_⟩ <;> (intro hc; (try simp at hc); (all_goals first | (exfalso; omega) | skip))))
              all_goals first | (simp [pf10, chunkOkF, n1, n2, n3, n4, ← h4]; done) | (exfalso; omega) | skip
        · have o : ¬ okSlot cols x_Next (p2.length : Nat) d = true := by simp [okSlot, g1]
          rw [if_neg o] at h4
          repeat' (first
            | with_reducible (first | refine wp_seq ?_ | refine wp_blk ?_ | refine wp_skip ?_ | refine wp_exit ?_ | refine wp_ret ?_ | refine seqQ_norm ?_ | refine seqQ_ret ?_ | refine seqQ_exit ?_ | refine blkQ_norm ?_ | refine blkQ_ret ?_ | refine blkQ_exit ?_ | refine loopQ_norm ?_ | refine loopQ_exit ?_ | refine loopQ_ret ?_ | refine endQ_ret ?_ | refine endQ_norm ?_ | refine endE_ret ?_ | refine endE_norm ?_ | refine endI_ret ?_ | refine endI_norm ?_)
            | (with_reducible refine wp_regK fun K hK => ?_
               simp[hg2, he2, hlt, y4, hw, hd1, hd2, h, g1]
               repeat' (with_reducible first | refine hK _ ?_ | (refine psel ?_ ?_ <;> (intro hc; (try rw [Decidable.not_not] at hc); first | (exfalso; omega) | (try simp [hc, hg2, he2, hlt, y4, hw, hd1, hd2, h, g1]))))
               all_goals (clear hK; clear K))
            | (with_reducible refine wp_condE ?_
               refine ⟨_, rfl, ?_, ?_⟩ <;> (intro hc; (try simp at hc); (all_goals first | (exfalso; omega) | skip))))
          all_goals first | (simp [pf10, chunkOkF, n1, n2, n3, n4, ← h4]; done) | (exfalso; omega) | skip
    · repeat' (first
        | with_reducible (first | refine wp_seq ?_ | refine wp_blk ?_ | refine wp_skip ?_ | refine wp_exit ?_ | refine wp_ret ?_ | refine seqQ_norm ?_ | refine seqQ_ret ?_ | refine seqQ_exit ?_ | refine blkQ_norm ?_ | refine blkQ_ret ?_ | refine blkQ_exit ?_ | refine loopQ_norm ?_ | refine loopQ_exit ?_ | refine loopQ_ret ?_ | refine endQ_ret ?_ | refine endQ_norm ?_ | refine endE_ret ?_ | refine endE_norm ?_ | refine endI_ret ?_ | refine endI_norm ?_)
        | (with_reducible refine wp_loop (c := pl10_0) ?_
           conv => arg 2; unfold pl10_0)
        | (with_reducible refine wp_regK fun K hK => ?_
           simp[b1.1, b1.2]
           repeat' (with_reducible first | refine hK _ ?_ | (refine psel ?_ ?_ <;> (intro hc; (try rw [Decidable.not_not] at hc); first | (exfalso; omega) | (try simp [hc, b1.1, b1.2]))))
           all_goals (clear hK; clear K))
        | (with_reducible refine wp_condE ?_
           refine ⟨_, rfl, ?_, ?_⟩ <;> (intro hc; (try simp at hc); (all_goals first | (exfalso; omega) | skip))))
      all_goals first | (simp [pf10, chunkOkF, b2]; done) | (exfalso; omega) | skip
  · repeat' (first
      | with_reducible (first | refine wp_seq ?_ | refine wp_blk ?_ | refine wp_skip ?_ | refine wp_exit ?_ | refine wp_ret ?_ | refine seqQ_norm ?_ | refine seqQ_ret ?_ | refine seqQ_exit ?_ | refine blkQ_norm ?_ | refine blkQ_ret ?_ | refine blkQ_exit ?_ | refine loopQ_norm ?_ | refine loopQ_exit ?_ | refine loopQ_ret ?_ | refine endQ_ret ?_ | refine endQ_norm ?_ | refine endE_ret ?_ | refine endE_norm ?_ | refine endI_ret ?_ | refine endI_norm ?_)
      | (with_reducible refine wp_regK fun K hK => ?_
         simp
         repeat' (with_reducible first | refine hK _ ?_ | (refine psel ?_ ?_ <;> (intro hc; (try rw [Decidable.not_not] at hc); first | (exfalso; omega) | (try simp [hc]))))
         all_goals (clear hK; clear K))
      | (with_reducible refine wp_condE ?_
         refine ⟨_, rfl, ?_, ?_⟩ <;> (intro hc; (try simp at hc); (all_goals first | (exfalso; omega) | skip))))
    all_goals first | (simp [pf10, chunkOkF, b1]; done) | (exfalso; omega) | skip

@[simp] theorem t266 (k0 : Bool) (cols : List Int) (h : cols.length ≤ 1048576) (k1 : Bool) (x_Next : Int) (x_L : List XSlot) (h5 : x_L.length ≤ 1048576) (hs : XSlot.sms x_L) : Gw TT 266 [.one (.ro k0 (.sl 1 (cols.map ei))), .st [.ro false (di x_Next), .ro k1 (.sl 2 (x_L.map XSlot.e))]] = some (vb (chunkOkF cols x_Next x_L), []) := by
  refine Gw_of (F := pf266) rfl rfl ?_
  show Wp _ pb266 _ _
  unfold pb266
  repeat' (first
    | with_reducible (first | refine wp_seq ?_ | refine wp_blk ?_ | refine wp_skip ?_ | refine wp_exit ?_ | refine wp_ret ?_ | refine seqQ_norm ?_ | refine seqQ_ret ?_ | refine seqQ_exit ?_ | refine blkQ_norm ?_ | refine blkQ_ret ?_ | refine blkQ_exit ?_ | refine loopQ_norm ?_ | refine loopQ_exit ?_ | refine loopQ_ret ?_ | refine endQ_ret ?_ | refine endQ_norm ?_ | refine endE_ret ?_ | refine endE_norm ?_ | refine endI_ret ?_ | refine endI_norm ?_)
    | (with_reducible refine wp_regK fun K hK => ?_
       simp
       repeat' (with_reducible first | refine hK _ ?_ | (refine psel ?_ ?_ <;> (intro hc; (try rw [Decidable.not_not] at hc); first | (exfalso; omega) | (try simp [hc]))))
       all_goals (clear hK; clear K))
    | (with_reducible refine wp_condE ?_
       refine ⟨_, rfl, ?_, ?_⟩ <;> (intro hc; (try simp at hc); (all_goals first | (exfalso; omega) | skip))))
  refine wp_loopI (σ := List XSlot × List XSlot) (fun s => [(0, AV.v k0 (D.sl 1 (cols.map ei)), none), (3, AV.bx 3 0, some (Rt.bx [.ro false (di x_Next), .ro k1 (.sl 2 (x_L.map XSlot.e))])), (5, AV.v false (di ((s.1.length : Nat) : Int)), none)]) (fun s => x_L = s.1 ++ s.2 ∧ slotsF cols x_Next (s.1.length : Nat) s.2 = slotsF cols x_Next 0 x_L) (fun s => s.2.length) ([], x_L) (by simp) ⟨rfl, rfl⟩ ?_
  rintro ⟨p2, r2⟩ ⟨h2, h4⟩
  simp only at h2 h4
  have y3 : x_L.length = p2.length + r2.length := by rw [h2, List.length_append]
  rcases r2 with _ | ⟨d, r2⟩
  · simp only [List.length_nil] at y3
    simp only [slotsF] at h4
    have y4 : ¬ (p2.length : Int) < (x_L.length : Int) := by omega
    have y6 : (p2.length : Int) = (x_L.length : Int) := by omega
    unfold pl266_0
    repeat' (first
      | with_reducible (first | refine wp_seq ?_ | refine wp_blk ?_ | refine wp_skip ?_ | refine wp_exit ?_ | refine wp_ret ?_ | refine seqQ_norm ?_ | refine seqQ_ret ?_ | refine seqQ_exit ?_ | refine blkQ_norm ?_ | refine blkQ_ret ?_ | refine blkQ_exit ?_ | refine loopQ_norm ?_ | refine loopQ_exit ?_ | refine loopQ_ret ?_ | refine endQ_ret ?_ | refine endQ_norm ?_ | refine endE_ret ?_ | refine endE_norm ?_ | refine endI_ret ?_ | refine endI_norm ?_)
      | (with_reducible refine wp_regK fun K hK => ?_
         simp[y4, y6]
         repeat' (with_reducible first | refine hK _ ?_ | (refine psel ?_ ?_ <;> (intro hc; (try rw [Decidable.not_not] at hc); first | (exfalso; omega) | (try simp [hc, y4, y6]))))
         all_goals (clear hK; clear K))
      | (with_reducible refine wp_condE ?_
         refine ⟨_, rfl, ?_, ?_⟩ <;> (intro hc; (try simp at hc); (all_goals first | (exfalso; omega) | skip))))
    all_goals first | (rw [← y6] at *; simp_all [pf266, chunkOkF]; done) | (simp_all [pf266, chunkOkF]; done) | (exact (by simp [pf266, chunkOkF, ← h4]; omega)) | (exfalso; omega) | skip
  · simp only [List.length_cons] at y3
    have hd := hs d (by rw [h2]; simp)
    simp only [XSlot.sm] at hd
    obtain ⟨hd1, hd2⟩ := hd
    simp only [slotsF] at h4
    have hg2 : x_L[p2.length]? = some d := by rw [h2]; simp
    obtain ⟨hlt, he2⟩ := List.getElem?_eq_some_iff.1 hg2
    have y4 : (p2.length : Int) < (x_L.length : Int) := by omega
    have hw : IntKind.wrap .i64 ((p2.length : Int) + 1) = (p2.length : Int) + 1 := wrap_i64 (by omega) (by omega)
    unfold pl266_0
    by_cases g1 : -1 ≤ d.Ins
    · by_cases g2 : d.Ins = 0
      · by_cases g3 : d.L = []
        · have o : okSlot cols x_Next (p2.length : Nat) d = true := by simp [okSlot, g2, g3]
          rw [if_pos o] at h4
          repeat' (first
            | with_reducible (first | refine wp_seq ?_ | refine wp_blk ?_ | refine wp_skip ?_ | refine wp_exit ?_ | refine wp_ret ?_ | refine seqQ_norm ?_ | refine seqQ_ret ?_ | refine seqQ_exit ?_ | refine blkQ_norm ?_ | refine blkQ_ret ?_ | refine blkQ_exit ?_ | refine loopQ_norm ?_ | refine loopQ_exit ?_ | refine loopQ_ret ?_ | refine endQ_ret ?_ | refine endQ_norm ?_ | refine endE_ret ?_ | refine endE_norm ?_ | refine endI_ret ?_ | refine endI_norm ?_)
            | (with_reducible refine wp_regK fun K hK => ?_
               simp[hg2, he2, hlt, y4, hw, hd1, hd2, h, g2, g3]
               repeat' (with_reducible first | refine hK _ ?_ | (refine psel ?_ ?_ <;> (intro hc; (try rw [Decidable.not_not] at hc); first | (exfalso; omega) | (try simp [hc, hg2, he2, hlt, y4, hw, hd1, hd2, h, g2, g3]))))
               all_goals (clear hK; clear K))
            | (with_reducible refine wp_condE ?_
               refine ⟨_, rfl, ?_, ?_⟩ <;> (intro hc; (try simp at hc); (all_goals first | (exfalso; omega) | skip))))
          all_goals first | exact ⟨(p2 ++ [d], r2), by simp, ⟨by rw [h2]; simp, by simpa using h4⟩, by simp⟩ | (exfalso; omega) | skip
        · have g3l := List.length_pos_iff.2 g3
          have o : ¬ okSlot cols x_Next (p2.length : Nat) d = true := by simp [okSlot, g2, g3]
          rw [if_neg o] at h4
          repeat' (first
            | with_reducible (first | refine wp_seq ?_ | refine wp_blk ?_ | refine wp_skip ?_ | refine wp_exit ?_ | refine wp_ret ?_ | refine seqQ_norm ?_ | refine seqQ_ret ?_ | refine seqQ_exit ?_ | refine blkQ_norm ?_ | refine blkQ_ret ?_ | refine blkQ_exit ?_ | refine loopQ_norm ?_ | refine loopQ_exit ?_ | refine loopQ_ret ?_ | refine endQ_ret ?_ | refine endQ_norm ?_ | refine endE_ret ?_ | refine endE_norm ?_ | refine endI_ret ?_ | refine endI_norm ?_)
            | (with_reducible refine wp_regK fun K hK => ?_
               simp[hg2, he2, hlt, y4, hw, hd1, hd2, h, g2, g3]
               repeat' (with_reducible first | refine hK _ ?_ | (refine psel ?_ ?_ <;> (intro hc; (try rw [Decidable.not_not] at hc); first | (exfalso; omega) | (try simp [hc, hg2, he2, hlt, y4, hw, hd1, hd2, h, g2, g3]))))
               all_goals (clear hK; clear K))
            | (with_reducible refine wp_condE ?_
               refine ⟨_, rfl, ?_, ?_⟩ <;> (intro hc; (try simp at hc); (all_goals first | (exfalso; omega) | skip))))
          all_goals first | (simp [pf266, chunkOkF, ← h4]; done) | (exfalso; omega) | skip
      · by_cases g4 : (p2.length : Int) < x_Next
        · by_cases g5 : fitsF cols d.L = true
          · have o : okSlot cols x_Next (p2.length : Nat) d = true := by simp [okSlot, g1, g2, g4, g5]
            rw [if_pos o] at h4
            repeat' (first
              | with_reducible (first | refine wp_seq ?_ | refine wp_blk ?_ | refine wp_skip ?_ | refine wp_exit ?_ | refine wp_ret ?_ | refine seqQ_norm ?_ | refine seqQ_ret ?_ | refine seqQ_exit ?_ | refine blkQ_norm ?_ | refine blkQ_ret ?_ | refine blkQ_exit ?_ | refine loopQ_norm ?_ | refine loopQ_exit ?_ | refine loopQ_ret ?_ | refine endQ_ret ?_ | refine endQ_norm ?_ | refine endE_ret ?_ | refine endE_norm ?_ | refine endI_ret ?_ | refine endI_norm ?_)
              | (with_reducible refine wp_regK fun K hK => ?_
                 simp[hg2, he2, hlt, y4, hw, hd1, hd2, h, g1, g2, g4, g5]
                 repeat' (with_reducible first | refine hK _ ?_ | (refine psel ?_ ?_ <;> (intro hc; (try rw [Decidable.not_not] at hc); first | (exfalso; omega) | (try simp [hc, hg2, he2, hlt, y4, hw, hd1, hd2, h, g1, g2, g4, g5]))))
                 all_goals (clear hK; clear K))
              | (with_reducible refine wp_condE ?_
                 refine ⟨_, rfl, ?_, ?_⟩ <;> (intro hc; (try simp at hc); (all_goals first | (exfalso; omega) | skip))))
            all_goals first | exact ⟨(p2 ++ [d], r2), by simp, ⟨by rw [h2]; simp, by simpa using h4⟩, by simp⟩ | (exfalso; omega) | skip
          · have g5f : fitsF cols d.L = false := by simpa using g5
            have o : ¬ okSlot cols x_Next (p2.length : Nat) d = true := by simp [okSlot, g1, g2, g4, g5f]
            rw [if_neg o] at h4
            repeat' (first
              | with_reducible (first | refine wp_seq ?_ | refine wp_blk ?_ | refine wp_skip ?_ | refine wp_exit ?_ | refine wp_ret ?_ | refine seqQ_norm ?_ | refine seqQ_ret ?_ | refine seqQ_exit ?_ | refine blkQ_norm ?_ | refine blkQ_ret ?_ | refine blkQ_exit ?_ | refine loopQ_norm ?_ | refine loopQ_exit ?_ | refine loopQ_ret ?_ | refine endQ_ret ?_ | refine endQ_norm ?_ | refine endE_ret ?_ | refine endE_norm ?_ | refine endI_ret ?_ | refine endI_norm ?_)
              | (with_reducible refine wp_regK fun K hK => ?_
                 simp[hg2, he2, hlt, y4, hw, hd1, hd2, h, g1, g2, g4, g5f]
                 repeat' (with_reducible first | refine hK _ ?_ | (refine psel ?_ ?_ <;> (intro hc; (try rw [Decidable.not_not] at hc); first | (exfalso; omega) | (try simp [hc, hg2, he2, hlt, y4, hw, hd1, hd2, h, g1, g2, g4, g5f]))))
                 all_goals (clear hK; clear K))
              | (with_reducible refine wp_condE ?_
                 refine ⟨_, rfl, ?_, ?_⟩ <;> (intro hc; (try simp at hc); (all_goals first | (exfalso; omega) | skip))))
            all_goals first | (simp [pf266, chunkOkF, ← h4]; done) | (exfalso; omega) | skip
        · have o : ¬ okSlot cols x_Next (p2.length : Nat) d = true := by simp [okSlot, g1, g2, g4]
          rw [if_neg o] at h4
          repeat' (first
            | with_reducible (first | refine wp_seq ?_ | refine wp_blk ?_ | refine wp_skip ?_ | refine wp_exit ?_ | refine wp_ret ?_ | refine seqQ_norm ?_ | refine seqQ_ret ?_ | refine seqQ_exit ?_ | refine blkQ_norm ?_ | refine blkQ_ret ?_ | refine blkQ_exit ?_ | refine loopQ_norm ?_ | refine loopQ_exit ?_ | refine loopQ_ret ?_ | refine endQ_ret ?_ | refine endQ_norm ?_ | refine endE_ret ?_ | refine endE_norm ?_ | refine endI_ret ?_ | refine endI_norm ?_)
            | (with_reducible refine wp_regK fun K hK => ?_
               simp[hg2, he2, hlt, y4, hw, hd1, hd2, h, g1, g2, g4]
               repeat' (with_reducible first | refine hK _ ?_ | (refine psel ?_ ?_ <;> (intro hc; (try rw [Decidable.not_not] at hc); first | (exfalso; omega) | (try simp [hc, hg2, he2, hlt, y4, hw, hd1, hd2, h, g1, g2, g4]))))
               all_goals (clear hK; clear K))
            | (with_reducible refine wp_condE ?_
               refine ⟨_, rfl, ?_, ?_⟩ <;> (intro hc; (try simp at hc); (all_goals first | (exfalso; omega) | skip))))
          all_goals first | (simp [pf266, chunkOkF, ← h4]; done) | (exfalso; omega) | skip
    · have o : ¬ okSlot cols x_Next (p2.length : Nat) d = true := by simp [okSlot, g1]
      rw [if_neg o] at h4
      repeat' (first
        | with_reducible (first | refine wp_seq ?_ | refine wp_blk ?_ | refine wp_skip ?_ | refine wp_exit ?_ | refine wp_ret ?_ | refine seqQ_norm ?_ | refine seqQ_ret ?_ | refine seqQ_exit ?_ | refine blkQ_norm ?_ | refine blkQ_ret ?_ | refine blkQ_exit ?_ | refine loopQ_norm ?_ | refine loopQ_exit ?_ | refine loopQ_ret ?_ | refine endQ_ret ?_ | refine endQ_norm ?_ | refine endE_ret ?_ | refine endE_norm ?_ | refine endI_ret ?_ | refine endI_norm ?_)
        | (with_reducible refine wp_regK fun K hK => ?_
           simp[hg2, he2, hlt, y4, hw, hd1, hd2, h, g1]
           repeat' (with_reducible first | refine hK _ ?_ | (refine psel ?_ ?_ <;> (intro hc; (try rw [Decidable.not_not] at hc); first | (exfalso; omega) | (try simp [hc, hg2, he2, hlt, y4, hw, hd1, hd2, h, g1]))))
           all_goals (clear hK; clear K))
        | (with_reducible refine wp_condE ?_
           refine ⟨_, rfl, ?_, ?_⟩ <;> (intro hc; (try simp at hc); (all_goals first | (exfalso; omega) | skip))))
      all_goals first | (simp [pf266, chunkOkF, ← h4]; done) | (exfalso; omega) | skip

def allCame (ts : Int) : List XSlot → Bool
  | [] => true
  | d :: l => if cameB d.Ins ts = true then allCame ts l else false

def wholeF (ts nx : Int) (l : List XSlot) : Bool := allCame ts l && decide (nx = (l.length : Int))

theorem rowsOfF_all (ts : Int) : ∀ (l : List XSlot) (i : Int), decide ((rowsOfF 0 ts i l).length = l.length) = allCame ts l
  | [], i => by simp [rowsOfF, allCame]
  | d :: l, i => by
    have ih := rowsOfF_all ts l (i + 1)
    have hl := rowsOfF_len 0 ts l (i + 1)
    simp only [rowsOfF, allCame]
    split
    · simpa using ih
    · simp only [List.length_cons, decide_eq_false_iff_not]; omega

end Go.Proofs.Ytkgibccknlbiaaa.OM
