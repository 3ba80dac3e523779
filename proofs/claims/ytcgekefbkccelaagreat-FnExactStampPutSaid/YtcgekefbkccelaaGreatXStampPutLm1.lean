/- What the functions answer. -/
import Derived.Test.YtcgekefbkccelaaGreatXStampPutLm0
set_option linter.all false
namespace Go.Proofs.YtcgekefbkccelaaGreat.OM
set_option maxHeartbeats 4000000
set_option maxRecDepth 100000

@[simp] theorem t340 (k0 : Bool) (x_C_Cols : List Int) (x_C_Slots : Int) (x_C_Bufs : Int) (x_Time : Int) (x_T : Int) (x_E : Int) (x_Dd_Ver : Int) (x_Dd_L : List XRef) (x_B : List XBuf) (x_M : List Int) (x_X : List XDead) (x_P : List Int) (x_Tasks : List XTask) (x_Deeds : List XDeed) (r_Buf : Int) (r_Gen : Int) (r_Kind : Int) (r_First : Int) (r_Many : Int) (h : x_B.length ≤ 1048576) : Gw TT 340 [.st [.ro k0 (.sl 1 (x_C_Cols.map ei)), .ro false (di x_C_Slots), .ro false (di x_C_Bufs), .ro false (di x_Time), .ro false (di x_T), .ro false (di x_E), .ro false (di x_Dd_Ver), .ro k0 (.sl 5 (x_Dd_L.map XRef.e)), .ro k0 (.sl 5 (x_B.map XBuf.e)), .ro k0 (.sl 1 (x_M.map ei)), .ro k0 (.sl 3 (x_X.map XDead.e)), .ro k0 (.sl 1 (x_P.map ei)), .ro k0 (.sl 25 (x_Tasks.map XTask.e)), .ro k0 (.sl 25 (x_Deeds.map XDeed.e))], .st [.ro false (di r_Buf), .ro false (di r_Gen), .ro false (di r_Kind), .ro false (di r_First), .ro false (di r_Many)]] = some (vb (thereF x_B r_Buf r_Gen r_Kind r_Many), []) := by
  refine Gw_of (F := pf340) rfl rfl ?_
  show Wp _ pb340 _ _
  unfold pb340
  by_cases hb : 0 ≤ r_Buf ∧ r_Buf < (x_B.length : Int)
  · obtain ⟨pre, b, rest, rfl, hp⟩ := split_at x_B r_Buf.toNat (by omega)
    obtain rfl : r_Buf = (pre.length : Int) := by omega
    simp only [List.length_append, List.length_cons] at h hb
    have hw : IntKind.wrap .i64 ((pre.length : Int) + ((rest.length : Int) + 1) - 1) = (pre.length : Int) + ((rest.length : Int) + 1) - 1 := wrap_i64 (by omega) (by omega)
    repeat' (first
      | with_reducible (first | refine wp_seq ?_ | refine wp_blk ?_ | refine wp_skip ?_ | refine wp_exit ?_ | refine wp_ret ?_ | refine seqQ_norm ?_ | refine seqQ_ret ?_ | refine seqQ_exit ?_ | refine blkQ_norm ?_ | refine blkQ_ret ?_ | refine blkQ_exit ?_ | refine loopQ_norm ?_ | refine loopQ_exit ?_ | refine loopQ_ret ?_ | refine endQ_ret ?_ | refine endQ_norm ?_ | refine endE_ret ?_ | refine endE_norm ?_ | refine endI_ret ?_ | refine endI_norm ?_)
      | (with_reducible refine wp_regK fun K hK => ?_
         simp[hw]
         repeat' (with_reducible first | refine hK _ ?_ | (refine psel ?_ ?_ <;> (intro hc; (try rw [Decidable.not_not] at hc); first | (exfalso; omega) | (try simp [hc, hw]))))
         all_goals (clear hK; clear K))
      | (with_reducible refine wp_condE ?_
         refine ⟨_, rfl, ?_, ?_⟩ <;> (intro hc; (try simp at hc); (all_goals first | (exfalso; omega) | skip))))
    all_goals first | (exfalso; omega) | (simp_all [pf340, thereF]; done) | (simp_all [pf340, thereF]; omega) | (simp [pf340, thereF, *]; done)
  · have hf := thereF_out (gen := r_Gen) (kind := r_Kind) (many := r_Many) hb
    have hw : IntKind.wrap .i64 ((x_B.length : Int) - 1) = (x_B.length : Int) - 1 := wrap_i64 (by omega) (by omega)
    repeat' (first
      | with_reducible (first | refine wp_seq ?_ | refine wp_blk ?_ | refine wp_skip ?_ | refine wp_exit ?_ | refine wp_ret ?_ | refine seqQ_norm ?_ | refine seqQ_ret ?_ | refine seqQ_exit ?_ | refine blkQ_norm ?_ | refine blkQ_ret ?_ | refine blkQ_exit ?_ | refine loopQ_norm ?_ | refine loopQ_exit ?_ | refine loopQ_ret ?_ | refine endQ_ret ?_ | refine endQ_norm ?_ | refine endE_ret ?_ | refine endE_norm ?_ | refine endI_ret ?_ | refine endI_norm ?_)
      | (with_reducible refine wp_regK fun K hK => ?_
         simp[hw]
         repeat' (with_reducible first | refine hK _ ?_ | (refine psel ?_ ?_ <;> (intro hc; (try rw [Decidable.not_not] at hc); first | (exfalso; omega) | (try simp [hc, hw]))))
         all_goals (clear hK; clear K))
      | (with_reducible refine wp_condE ?_
         refine ⟨_, rfl, ?_, ?_⟩ <;> (intro hc; (try simp at hc); (all_goals first | (exfalso; omega) | skip))))
    all_goals first | (exfalso; omega) | (simp_all [pf340]; done)

@[simp] theorem take_mid {α : Type} {n : Nat} (l r : List α) (h : n = l.length) : (l ++ r).take n = l := by subst h; simp

@[simp] theorem bytesStr_map (l : List Int) : bytesStr (l.map eb) = some (l.map fun n => UInt8.ofNat n.toNat) := by
  induction l with
  | nil => rfl
  | cons n l ih =>
    have : bytesStr (List.map eb (n :: l)) = match bytesStr (l.map eb) with
      | some bs => some (UInt8.ofNat n.toNat :: bs)
      | none => none := rfl
    rw [this, ih]; rfl

def isChunkB (B : List XBuf) (r : XRef) : Bool := r.Kind == 1 && thereF B r.Buf r.Gen r.Kind r.Many

theorem isChunk_get {B : List XBuf} {r : XRef} (h : isChunkB B r = true) : ∃ pre b rest, B = pre ++ b :: rest ∧ r.Buf = (pre.length : Int) ∧ r.Kind = 1 ∧ b.Gen = r.Gen ∧ b.Kind = r.Kind ∧ (b.C.L.length : Int) = r.Many := by
  simp only [isChunkB, Bool.and_eq_true, beq_iff_eq] at h
  obtain ⟨h1, h2⟩ := h
  by_cases hb : 0 ≤ r.Buf ∧ r.Buf < (B.length : Int)
  · obtain ⟨pre, b, rest, rfl, hp⟩ := split_at B r.Buf.toNat (by omega)
    have hq : r.Buf = (pre.length : Int) := by omega
    refine ⟨pre, b, rest, rfl, hq, h1, ?_⟩
    simp [thereF, hq, h1] at h2
    exact ⟨h2.1.1, by rw [h1]; exact h2.1.2, h2.2⟩
  · rw [thereF_out hb] at h2; cases h2

theorem isChunk_at {B : List XBuf} {r : XRef} (h : isChunkB B r = true) : ∃ b, B[r.Buf.toNat]? = some b ∧ 0 ≤ r.Buf ∧ r.Buf < (B.length : Int) ∧ b ∈ B := by
  obtain ⟨pre, b, rest, rfl, h2, _⟩ := isChunk_get h
  refine ⟨b, by rw [h2]; simp, by omega, by rw [h2]; simp; omega, by simp⟩

theorem t68_yes (k0 : Bool) (x_C_Cols : List Int) (x_C_Slots : Int) (x_C_Bufs : Int) (x_Time : Int) (x_T : Int) (x_E : Int) (x_Dd_Ver : Int) (x_Dd_L : List XRef) (x_B : List XBuf) (x_M : List Int) (x_X : List XDead) (x_P : List Int) (x_Tasks : List XTask) (x_Deeds : List XDeed) (r_Buf : Int) (r_Gen : Int) (r_Kind : Int) (r_First : Int) (r_Many : Int) (h : x_B.length ≤ 1048576) (hc : isChunkB x_B ⟨r_Buf, r_Gen, r_Kind, r_First, r_Many⟩ = true) (b : XBuf) (hb : x_B[r_Buf.toNat]? = some b) :
    Gw TT 68 [.st [.ro k0 (.sl 1 (x_C_Cols.map ei)), .ro false (di x_C_Slots), .ro false (di x_C_Bufs), .ro false (di x_Time), .ro false (di x_T), .ro false (di x_E), .ro false (di x_Dd_Ver), .ro k0 (.sl 5 (x_Dd_L.map XRef.e)), .ro k0 (.sl 5 (x_B.map XBuf.e)), .ro k0 (.sl 1 (x_M.map ei)), .ro k0 (.sl 3 (x_X.map XDead.e)), .ro k0 (.sl 1 (x_P.map ei)), .ro k0 (.sl 25 (x_Tasks.map XTask.e)), .ro k0 (.sl 25 (x_Deeds.map XDeed.e))], .st [.ro false (di r_Buf), .ro false (di r_Gen), .ro false (di r_Kind), .ro false (di r_First), .ro false (di r_Many)]] = some (.tup [.st [.ro false (di b.C.Next), .ro k0 (.sl 2 (b.C.L.map XSlot.e))], vb true], []) := by
  have hc2 := hc
  simp only [isChunkB, Bool.and_eq_true, beq_iff_eq] at hc2
  obtain ⟨hk, ht⟩ := hc2
  obtain ⟨_, _, hb0, hb1, _⟩ := isChunk_at hc
  simp only at hb0 hb1
  obtain ⟨hlt, he⟩ := List.getElem?_eq_some_iff.1 hb
  refine Gw_of (F := pf68) rfl rfl ?_
  show Wp _ pb68 _ _
  unfold pb68
  repeat' first|with_reducible (first|apply Z1|apply Z2|apply Z3|apply Z4|apply Z5|apply Z6|apply Z7|apply Z8|apply Z9|apply Y1|apply Y2|apply Y3|apply Y4|apply Y5|apply Y6|apply Y7|apply Y8|apply Y9)|(with_reducible refine Xk fun K k=>?_;simp [h, ht, hk, hb0, hb1, he];repeat' (with_reducible first|refine k _ ?_|(refine psel ?_ ?_<;>(intro hc;(try rw [Decidable.not_not] at hc);first|(exfalso;omega)|(try simp [hc, h, ht, hk, hb0, hb1, he]))));all_goals clear k K)|refine Xt rfl ?_|refine Xf rfl ?_|(with_reducible refine wp_condE ?_;refine ⟨_,rfl,?_,?_⟩<;>(intro hc;(try simp at hc);(all_goals first|(exfalso;omega)|skip)))
  all_goals first | (simp [pf68, he]; done) | (exfalso; omega) | (simp_all; done)

theorem t68_no (k0 : Bool) (x_C_Cols : List Int) (x_C_Slots : Int) (x_C_Bufs : Int) (x_Time : Int) (x_T : Int) (x_E : Int) (x_Dd_Ver : Int) (x_Dd_L : List XRef) (x_B : List XBuf) (x_M : List Int) (x_X : List XDead) (x_P : List Int) (x_Tasks : List XTask) (x_Deeds : List XDeed) (r_Buf : Int) (r_Gen : Int) (r_Kind : Int) (r_First : Int) (r_Many : Int) (h : x_B.length ≤ 1048576) (hc : isChunkB x_B ⟨r_Buf, r_Gen, r_Kind, r_First, r_Many⟩ = false) :
    Gw TT 68 [.st [.ro k0 (.sl 1 (x_C_Cols.map ei)), .ro false (di x_C_Slots), .ro false (di x_C_Bufs), .ro false (di x_Time), .ro false (di x_T), .ro false (di x_E), .ro false (di x_Dd_Ver), .ro k0 (.sl 5 (x_Dd_L.map XRef.e)), .ro k0 (.sl 5 (x_B.map XBuf.e)), .ro k0 (.sl 1 (x_M.map ei)), .ro k0 (.sl 3 (x_X.map XDead.e)), .ro k0 (.sl 1 (x_P.map ei)), .ro k0 (.sl 25 (x_Tasks.map XTask.e)), .ro k0 (.sl 25 (x_Deeds.map XDeed.e))], .st [.ro false (di r_Buf), .ro false (di r_Gen), .ro false (di r_Kind), .ro false (di r_First), .ro false (di r_Many)]] = some (.tup [.st [.ro false (di 0), .own (.sl 2 [])], vb false], []) := by
  simp only [isChunkB, Bool.and_eq_false_iff] at hc
  refine Gw_of (F := pf68) rfl rfl ?_
  show Wp _ pb68 _ _
  unfold pb68
  repeat' (first
    | with_reducible (first | refine wp_seq ?_ | refine wp_blk ?_ | refine wp_skip ?_ | refine wp_exit ?_ | refine wp_ret ?_ | refine seqQ_norm ?_ | refine seqQ_ret ?_ | refine seqQ_exit ?_ | refine blkQ_norm ?_ | refine blkQ_ret ?_ | refine blkQ_exit ?_ | refine loopQ_norm ?_ | refine loopQ_exit ?_ | refine loopQ_ret ?_ | refine endQ_ret ?_ | refine endQ_norm ?_ | refine endE_ret ?_ | refine endE_norm ?_ | refine endI_ret ?_ | refine endI_norm ?_)
    | (with_reducible refine wp_regK fun K hK => ?_
       simp[h]
       repeat' (with_reducible first | refine hK _ ?_ | (refine psel ?_ ?_ <;> (intro hc; (try rw [Decidable.not_not] at hc); first | (exfalso; omega) | (try simp [hc, h]))))
       all_goals (clear hK; clear K))
    | (with_reducible refine wp_condE ?_
       refine ⟨_, rfl, ?_, ?_⟩ <;> (intro hc; (try simp at hc); (all_goals first | (exfalso; omega) | skip))))
  all_goals first | (simp [pf68]; done) | (exfalso; simp_all; done) | (simp_all [pf68]; done)

@[simp] theorem t78 (k0 : Bool) (x_Next : Int) (x_L : List XSlot) (i : Int) : Gw TT 78 [.st [.ro false (di x_Next), .ro k0 (.sl 2 (x_L.map XSlot.e))], vi i] = some (vb (decide (0 ≤ i) && decide (i < (x_L.length : Int))), []) := by
  refine Gw_of (F := pf78) rfl rfl ?_
  show Wp _ pb78 _ _
  unfold pb78
  repeat' (first
    | with_reducible (first | refine wp_seq ?_ | refine wp_blk ?_ | refine wp_skip ?_ | refine wp_exit ?_ | refine wp_ret ?_ | refine seqQ_norm ?_ | refine seqQ_ret ?_ | refine seqQ_exit ?_ | refine blkQ_norm ?_ | refine blkQ_ret ?_ | refine blkQ_exit ?_ | refine loopQ_norm ?_ | refine loopQ_exit ?_ | refine loopQ_ret ?_ | refine endQ_ret ?_ | refine endQ_norm ?_ | refine endE_ret ?_ | refine endE_norm ?_ | refine endI_ret ?_ | refine endI_norm ?_)
    | (with_reducible refine wp_regK fun K hK => ?_
       simp
       repeat' (with_reducible first | refine hK _ ?_ | (refine psel ?_ ?_ <;> (intro hc; (try rw [Decidable.not_not] at hc); first | (exfalso; omega) | (try simp [hc]))))
       all_goals (clear hK; clear K))
    | (with_reducible refine wp_condE ?_
       refine ⟨_, rfl, ?_, ?_⟩ <;> (intro hc; (try simp at hc); (all_goals first | (exfalso; omega) | skip))))
  all_goals first | (simp_all [pf78]; done) | (simp_all [pf78]; omega)

@[simp] theorem flatD_nil : flatD [] = true := rfl

@[simp] theorem flatD_map {α : Type} (f : α → List D) (l : List α) (h : ∀ x, (f x).all D.scal = true) : flatD (l.map f) = true := by
  simp only [flatD, List.all_map, List.all_eq_true, Function.comp]
  exact fun x _ => List.all_eq_true.1 (h x)

@[simp] theorem flatD_one (e : List D) (l : List (List D)) : flatD (e :: l) = (e.all D.scal && flatD l) := rfl

@[simp] theorem flatD_app (l m : List (List D)) : flatD (l ++ m) = (flatD l && flatD m) := by simp [flatD]

@[simp] theorem live_int (k : IntKind) (n : Int) : (D.int k n).live = true := rfl

@[simp] theorem live_bool (b : Bool) : (D.bool b).live = true := rfl

@[simp] theorem live_str (s : ByteArray) : (D.str s).live = true := rfl

@[simp] theorem live_sl (sz : Nat) (es : List (List D)) : (D.sl sz es).live = true := rfl

def digF (k : Nat) (out : ByteArray) : ByteArray :=
  if h : k = 0 then out else digF (k / 10) (⟨#[UInt8.ofNat (IntKind.wrap .u8 (48 + ((k : Int).tmod 10))).toNat]⟩ ++ out)
termination_by k
decreasing_by omega

def mtext (k : Int) : ByteArray := if k ≤ 0 then ⟨#[109, 48]⟩ else ⟨#[109]⟩ ++ digF k.toNat ⟨#[]⟩

@[simp] theorem ba_one (x : UInt8) : (ByteArray.mk #[x]).size = 1 := rfl

theorem digF_zero (out : ByteArray) : digF 0 out = out := by unfold digF; simp

theorem digF_succ (k : Nat) (out : ByteArray) (h : k ≠ 0) : digF k out = digF (k / 10) (⟨#[UInt8.ofNat (IntKind.wrap .u8 (48 + ((k : Int).tmod 10))).toNat]⟩ ++ out) := by
  rw [digF]; simp [h]

@[simp] theorem t196 (k : Int) (h : k ≤ 4611686018427387904) : Gw TT 196 [vi k] = some (.one (.ro false (.str (mtext k))), []) := by
  refine Gw_of (F := pf196) rfl rfl ?_
  show Wp _ pb196 _ _
  unfold pb196
  repeat' first|with_reducible (first|apply Z1|apply Z2|apply Z3|apply Z4|apply Z5|apply Z6|apply Z7|apply Z8|apply Z9|apply Y1|apply Y2|apply Y3|apply Y4|apply Y5|apply Y6|apply Y7|apply Y8|apply Y9)|(with_reducible refine Xk fun K k=>?_;simp;repeat' (with_reducible first|refine k _ ?_|(refine psel ?_ ?_<;>(intro hc;(try rw [Decidable.not_not] at hc);first|(exfalso;omega)|(try simp [hc]))));all_goals clear k K)|refine Xt rfl ?_|refine Xf rfl ?_|(with_reducible refine wp_condE ?_;refine ⟨_,rfl,?_,?_⟩<;>(intro hc;(try simp at hc);(all_goals first|(exfalso;omega)|skip)))
  · simp [pf196, mtext, *]
  · refine wp_loopI (σ := Nat × ByteArray) (fun s => [(0, AV.v false (di ((s.1 : Nat) : Int)), none), (3, AV.v false (.str s.2), none)]) (fun s => digF s.1 s.2 = digF k.toNat ⟨#[]⟩ ∧ s.1 + s.2.size ≤ k.toNat) (fun s => s.1) (k.toNat, ⟨#[]⟩) (by simp; omega) ⟨rfl, Nat.le_refl _⟩ ?_
    rintro ⟨n, out⟩ ⟨h1, h2⟩
    simp only at h1 h2
    unfold pl196_0
    have ht : (n : Int).tmod 10 = (n : Int) % 10 := Int.tmod_eq_emod_of_nonneg (by omega)
    have hq : IntKind.wrap .i64 (48 + (n : Int).tmod 10) = 48 + (n : Int).tmod 10 := by rw [ht]; exact wrap_i64 (by omega) (by omega)
    have hd : IntKind.wrap .i64 ((n : Int).tdiv 10) = ((n / 10 : Nat) : Int) := by rw [Int.tdiv_eq_ediv_of_nonneg (by omega)]; rw [wrap_i64 (by omega) (by omega)]; omega
    have hs1 : (9223372036854775807 < 1 + (out.size : Int)) = False := by simp only [eq_iff_iff, iff_false]; omega
    have hd2 : IntKind.wrap .i64 ((n : Int) / 10) = (n : Int) / 10 := wrap_i64 (by omega) (by omega)
    repeat' first|with_reducible (first|apply Z1|apply Z2|apply Z3|apply Z4|apply Z5|apply Z6|apply Z7|apply Z8|apply Z9|apply Y1|apply Y2|apply Y3|apply Y4|apply Y5|apply Y6|apply Y7|apply Y8|apply Y9)|(with_reducible refine Xk fun K k=>?_;simp [hq, hd, hs1];repeat' (with_reducible first|refine k _ ?_|(refine psel ?_ ?_<;>(intro hc;(try rw [Decidable.not_not] at hc);first|(exfalso;omega)|(try simp [hc, hq, hd, hs1]))));all_goals clear k K)|refine Xt rfl ?_|refine Xf rfl ?_|(with_reducible refine wp_condE ?_;refine ⟨_,rfl,?_,?_⟩<;>(intro hc;(try simp at hc);(all_goals first|(exfalso;omega)|skip)))
    all_goals first | (exact ⟨(n / 10, ⟨#[UInt8.ofNat (IntKind.wrap .u8 (48 + (n : Int).tmod 10)).toNat]⟩ ++ out), by simp [hd2], ⟨by rw [← h1, digF_succ n out (by omega)], by simp only [ByteArray.size_append, ba_one]; omega⟩, by simp only; omega⟩) | skip
    all_goals first | (exfalso; omega) | (subst hc; rw [digF_zero] at h1; have hk : ¬ k ≤ 0 := by omega
                                          subst h1; simp [pf196, mtext, hk]; done)

def ctByte : Int → Int
  | d => 1

def ctBytes : List Int → Int
  | [] => 0
  | x :: l => ctByte x + ctBytes l

def mkByte : Int → Int → Int
  | k, d => IntKind.wrap .u8 k

def mkBytes : Int → List Int → List Int
  | _, [] => []
  | k, x :: l => mkByte k x :: mkBytes (k + ctByte x) l

theorem ctByte_pos : ∀ x : Int, 1 ≤ ctByte x
  | d => by simp only [ctByte]; omega

theorem ctBytes_len : ∀ l : List Int, (l.length : Int) ≤ ctBytes l
  | [] => by simp [ctBytes]
  | x :: l => by have h1 := ctByte_pos x; have h2 := ctBytes_len l; simp only [ctBytes, List.length_cons]; omega

theorem ctBytes_nn (l : List Int) : 0 ≤ ctBytes l := by have := ctBytes_len l; omega

@[simp] theorem mkBytes_len : ∀ (k : Int) (l : List Int), (mkBytes k l).length = l.length
  | _, [] => by simp [mkBytes]
  | k, x :: l => by simp [mkBytes, mkBytes_len]

theorem ctBytes_le : ∀ l : List Int, ctBytes l = 1 * (l.length : Int)
  | [] => by simp [ctBytes]
  | x :: l => by have h2 := ctBytes_le l; simp only [ctBytes, List.length_cons, ctByte]; omega

theorem chainByte (k1 : Int) (h0 : 0 ≤ k1)  (hB : k1 + (1) ≤ 4611686018427387904) :
    ∃ w1 : Int, w1 = k1 + 1 ∧ IntKind.wrap .i64 (k1 + 1) = w1 ∧ k1 + (1) = w1 ∧ 0 ≤ w1 :=
  ⟨k1 + 1, rfl, wrap_i64 (by omega) (by omega), by omega, by omega⟩

def ctInt : Int → Int
  | d => 1

def ctInts : List Int → Int
  | [] => 0
  | x :: l => ctInt x + ctInts l

def mkInt : Int → Int → Int
  | k, d => k

def mkInts : Int → List Int → List Int
  | _, [] => []
  | k, x :: l => mkInt k x :: mkInts (k + ctInt x) l

theorem ctInt_pos : ∀ x : Int, 1 ≤ ctInt x
  | d => by simp only [ctInt]; omega

theorem ctInts_len : ∀ l : List Int, (l.length : Int) ≤ ctInts l
  | [] => by simp [ctInts]
  | x :: l => by have h1 := ctInt_pos x; have h2 := ctInts_len l; simp only [ctInts, List.length_cons]; omega

theorem ctInts_nn (l : List Int) : 0 ≤ ctInts l := by have := ctInts_len l; omega

@[simp] theorem mkInts_len : ∀ (k : Int) (l : List Int), (mkInts k l).length = l.length
  | _, [] => by simp [mkInts]
  | k, x :: l => by simp [mkInts, mkInts_len]

theorem ctInts_le : ∀ l : List Int, ctInts l = 1 * (l.length : Int)
  | [] => by simp [ctInts]
  | x :: l => by have h2 := ctInts_le l; simp only [ctInts, List.length_cons, ctInt]; omega

theorem chainInt (k1 : Int) (h0 : 0 ≤ k1)  (hB : k1 + (1) ≤ 4611686018427387904) :
    ∃ w1 : Int, w1 = k1 + 1 ∧ IntKind.wrap .i64 (k1 + 1) = w1 ∧ k1 + (1) = w1 ∧ 0 ≤ w1 :=
  ⟨k1 + 1, rfl, wrap_i64 (by omega) (by omega), by omega, by omega⟩

def ctDead : XDead → Int
  | ⟨y_Buf, y_Gen, y_At⟩ => 1 + 1 + 1

def ctDeads : List XDead → Int
  | [] => 0
  | x :: l => ctDead x + ctDeads l

def mkDead : Int → XDead → XDead
  | k, ⟨y_Buf, y_Gen, y_At⟩ => ⟨k, k + 1, k + 1 + 1⟩

def mkDeads : Int → List XDead → List XDead
  | _, [] => []
  | k, x :: l => mkDead k x :: mkDeads (k + ctDead x) l

theorem ctDead_pos : ∀ x : XDead, 1 ≤ ctDead x
  | ⟨y_Buf, y_Gen, y_At⟩ => by simp only [ctDead]; omega

theorem ctDeads_len : ∀ l : List XDead, (l.length : Int) ≤ ctDeads l
  | [] => by simp [ctDeads]
  | x :: l => by have h1 := ctDead_pos x; have h2 := ctDeads_len l; simp only [ctDeads, List.length_cons]; omega

theorem ctDeads_nn (l : List XDead) : 0 ≤ ctDeads l := by have := ctDeads_len l; omega

@[simp] theorem mkDeads_len : ∀ (k : Int) (l : List XDead), (mkDeads k l).length = l.length
  | _, [] => by simp [mkDeads]
  | k, x :: l => by simp [mkDeads, mkDeads_len]

theorem ctDeads_le : ∀ l : List XDead, ctDeads l = 3 * (l.length : Int)
  | [] => by simp [ctDeads]
  | x :: l => by have h2 := ctDeads_le l; simp only [ctDeads, List.length_cons, ctDead]; omega

theorem chainDead (k1 : Int) (h0 : 0 ≤ k1)  (hB : k1 + (1 + 1 + 1) ≤ 4611686018427387904) :
    ∃ w1 w2 w3 : Int, w1 = k1 + 1 ∧ IntKind.wrap .i64 (k1 + 1) = w1 ∧ w2 = w1 + 1 ∧ IntKind.wrap .i64 (w1 + 1) = w2 ∧ w3 = w2 + 1 ∧ IntKind.wrap .i64 (w2 + 1) = w3 ∧ k1 + (1 + 1 + 1) = w3 ∧ 0 ≤ w3 :=
  ⟨k1 + 1, k1 + 1 + 1, k1 + 1 + 1 + 1, rfl, wrap_i64 (by omega) (by omega), rfl, wrap_i64 (by omega) (by omega), rfl, wrap_i64 (by omega) (by omega), by omega, by omega⟩

def ctRef : XRef → Int
  | ⟨y_Buf, y_Gen, y_Kind, y_First, y_Many⟩ => 1 + 1 + 1 + 1 + 1

def ctRefs : List XRef → Int
  | [] => 0
  | x :: l => ctRef x + ctRefs l

def mkRef : Int → XRef → XRef
  | k, ⟨y_Buf, y_Gen, y_Kind, y_First, y_Many⟩ => ⟨k, k + 1, k + 1 + 1, k + 1 + 1 + 1, k + 1 + 1 + 1 + 1⟩

def mkRefs : Int → List XRef → List XRef
  | _, [] => []
  | k, x :: l => mkRef k x :: mkRefs (k + ctRef x) l

theorem ctRef_pos : ∀ x : XRef, 1 ≤ ctRef x
  | ⟨y_Buf, y_Gen, y_Kind, y_First, y_Many⟩ => by simp only [ctRef]; omega

theorem ctRefs_len : ∀ l : List XRef, (l.length : Int) ≤ ctRefs l
  | [] => by simp [ctRefs]
  | x :: l => by have h1 := ctRef_pos x; have h2 := ctRefs_len l; simp only [ctRefs, List.length_cons]; omega

theorem ctRefs_nn (l : List XRef) : 0 ≤ ctRefs l := by have := ctRefs_len l; omega

@[simp] theorem mkRefs_len : ∀ (k : Int) (l : List XRef), (mkRefs k l).length = l.length
  | _, [] => by simp [mkRefs]
  | k, x :: l => by simp [mkRefs, mkRefs_len]

theorem ctRefs_le : ∀ l : List XRef, ctRefs l = 5 * (l.length : Int)
  | [] => by simp [ctRefs]
  | x :: l => by have h2 := ctRefs_le l; simp only [ctRefs, List.length_cons, ctRef]; omega

theorem chainRef (k1 : Int) (h0 : 0 ≤ k1)  (hB : k1 + (1 + 1 + 1 + 1 + 1) ≤ 4611686018427387904) :
    ∃ w1 w2 w3 w4 w5 : Int, w1 = k1 + 1 ∧ IntKind.wrap .i64 (k1 + 1) = w1 ∧ w2 = w1 + 1 ∧ IntKind.wrap .i64 (w1 + 1) = w2 ∧ w3 = w2 + 1 ∧ IntKind.wrap .i64 (w2 + 1) = w3 ∧ w4 = w3 + 1 ∧ IntKind.wrap .i64 (w3 + 1) = w4 ∧ w5 = w4 + 1 ∧ IntKind.wrap .i64 (w4 + 1) = w5 ∧ k1 + (1 + 1 + 1 + 1 + 1) = w5 ∧ 0 ≤ w5 :=
  ⟨k1 + 1, k1 + 1 + 1, k1 + 1 + 1 + 1, k1 + 1 + 1 + 1 + 1, k1 + 1 + 1 + 1 + 1 + 1, rfl, wrap_i64 (by omega) (by omega), rfl, wrap_i64 (by omega) (by omega), rfl, wrap_i64 (by omega) (by omega), rfl, wrap_i64 (by omega) (by omega), rfl, wrap_i64 (by omega) (by omega), by omega, by omega⟩

def ctVal : XVal → Int
  | ⟨y_Ty, y_N, y_S⟩ => 1 + 1 + 1

def ctVals : List XVal → Int
  | [] => 0
  | x :: l => ctVal x + ctVals l

def mkVal : Int → XVal → XVal
  | k, ⟨y_Ty, y_N, y_S⟩ => ⟨k, k + 1, mtext (k + 1 + 1)⟩

def mkVals : Int → List XVal → List XVal
  | _, [] => []
  | k, x :: l => mkVal k x :: mkVals (k + ctVal x) l

theorem ctVal_pos : ∀ x : XVal, 1 ≤ ctVal x
  | ⟨y_Ty, y_N, y_S⟩ => by simp only [ctVal]; omega

theorem ctVals_len : ∀ l : List XVal, (l.length : Int) ≤ ctVals l
  | [] => by simp [ctVals]
  | x :: l => by have h1 := ctVal_pos x; have h2 := ctVals_len l; simp only [ctVals, List.length_cons]; omega

theorem ctVals_nn (l : List XVal) : 0 ≤ ctVals l := by have := ctVals_len l; omega

@[simp] theorem mkVals_len : ∀ (k : Int) (l : List XVal), (mkVals k l).length = l.length
  | _, [] => by simp [mkVals]
  | k, x :: l => by simp [mkVals, mkVals_len]

theorem chainVal (k1 : Int) (h0 : 0 ≤ k1)  (hB : k1 + (1 + 1 + 1) ≤ 4611686018427387904) :
    ∃ w1 w2 w3 : Int, w1 = k1 + 1 ∧ IntKind.wrap .i64 (k1 + 1) = w1 ∧ w2 = w1 + 1 ∧ IntKind.wrap .i64 (w1 + 1) = w2 ∧ w3 = w2 + 1 ∧ IntKind.wrap .i64 (w2 + 1) = w3 ∧ w2 ≤ 4611686018427387904 ∧ k1 + (1 + 1 + 1) = w3 ∧ 0 ≤ w3 :=
  ⟨k1 + 1, k1 + 1 + 1, k1 + 1 + 1 + 1, rfl, wrap_i64 (by omega) (by omega), rfl, wrap_i64 (by omega) (by omega), rfl, wrap_i64 (by omega) (by omega), by omega, by omega, by omega⟩

def ctSlot : XSlot → Int
  | ⟨y_Ins, y_L⟩ => 1 + ctVals y_L

def ctSlots : List XSlot → Int
  | [] => 0
  | x :: l => ctSlot x + ctSlots l

def mkSlot : Int → XSlot → XSlot
  | k, ⟨y_Ins, y_L⟩ => ⟨k, mkVals (k + 1) y_L⟩

def mkSlots : Int → List XSlot → List XSlot
  | _, [] => []
  | k, x :: l => mkSlot k x :: mkSlots (k + ctSlot x) l

theorem ctSlot_pos : ∀ x : XSlot, 1 ≤ ctSlot x
  | ⟨y_Ins, y_L⟩ => by have h_y_L := ctVals_nn y_L; simp only [ctSlot]; omega

theorem ctSlots_len : ∀ l : List XSlot, (l.length : Int) ≤ ctSlots l
  | [] => by simp [ctSlots]
  | x :: l => by have h1 := ctSlot_pos x; have h2 := ctSlots_len l; simp only [ctSlots, List.length_cons]; omega

theorem ctSlots_nn (l : List XSlot) : 0 ≤ ctSlots l := by have := ctSlots_len l; omega

@[simp] theorem mkSlots_len : ∀ (k : Int) (l : List XSlot), (mkSlots k l).length = l.length
  | _, [] => by simp [mkSlots]
  | k, x :: l => by simp [mkSlots, mkSlots_len]

theorem chainSlot (k1 a_y_L : Int) (h0 : 0 ≤ k1) (h_y_L : 0 ≤ a_y_L) (hB : k1 + (1 + a_y_L) ≤ 4611686018427387904) :
    ∃ w1 w2 : Int, w1 = k1 + 1 ∧ IntKind.wrap .i64 (k1 + 1) = w1 ∧ w2 = w1 + a_y_L ∧ 0 ≤ w1 ∧ w2 ≤ 4611686018427387904 ∧ ¬ w2 < 0 ∧ k1 + (1 + a_y_L) = w2 ∧ 0 ≤ w2 :=
  ⟨k1 + 1, k1 + 1 + a_y_L, rfl, wrap_i64 (by omega) (by omega), rfl, by omega, by omega, by omega, by omega, by omega⟩

def ctBuf : XBuf → Int
  | ⟨y_Gen, y_Kind, ⟨y_C_Next, y_C_L⟩, y_G⟩ => 1 + 1 + 1 + ctSlots y_C_L + ctBytes y_G

def ctBufs : List XBuf → Int
  | [] => 0
  | x :: l => ctBuf x + ctBufs l

def mkBuf : Int → XBuf → XBuf
  | k, ⟨y_Gen, y_Kind, ⟨y_C_Next, y_C_L⟩, y_G⟩ => ⟨k, k + 1, ⟨k + 1 + 1, mkSlots (k + 1 + 1 + 1) y_C_L⟩, mkBytes (k + 1 + 1 + 1 + ctSlots y_C_L) y_G⟩

def mkBufs : Int → List XBuf → List XBuf
  | _, [] => []
  | k, x :: l => mkBuf k x :: mkBufs (k + ctBuf x) l

theorem ctBuf_pos : ∀ x : XBuf, 1 ≤ ctBuf x
  | ⟨y_Gen, y_Kind, ⟨y_C_Next, y_C_L⟩, y_G⟩ => by have h_y_C_L := ctSlots_nn y_C_L; have h_y_G := ctBytes_nn y_G; simp only [ctBuf]; omega

theorem ctBufs_len : ∀ l : List XBuf, (l.length : Int) ≤ ctBufs l
  | [] => by simp [ctBufs]
  | x :: l => by have h1 := ctBuf_pos x; have h2 := ctBufs_len l; simp only [ctBufs, List.length_cons]; omega

theorem ctBufs_nn (l : List XBuf) : 0 ≤ ctBufs l := by have := ctBufs_len l; omega

@[simp] theorem mkBufs_len : ∀ (k : Int) (l : List XBuf), (mkBufs k l).length = l.length
  | _, [] => by simp [mkBufs]
  | k, x :: l => by simp [mkBufs, mkBufs_len]

theorem chainBuf (k1 a_y_C_L a_y_G : Int) (h0 : 0 ≤ k1) (h_y_C_L : 0 ≤ a_y_C_L) (h_y_G : 0 ≤ a_y_G) (hB : k1 + (1 + 1 + 1 + a_y_C_L + a_y_G) ≤ 4611686018427387904) :
    ∃ w1 w2 w3 w4 w5 : Int, w1 = k1 + 1 ∧ IntKind.wrap .i64 (k1 + 1) = w1 ∧ w2 = w1 + 1 ∧ IntKind.wrap .i64 (w1 + 1) = w2 ∧ w3 = w2 + 1 ∧ IntKind.wrap .i64 (w2 + 1) = w3 ∧ w4 = w3 + a_y_C_L ∧ 0 ≤ w3 ∧ w4 ≤ 4611686018427387904 ∧ ¬ w4 < 0 ∧ w5 = w4 + a_y_G ∧ 0 ≤ w4 ∧ w5 ≤ 4611686018427387904 ∧ ¬ w5 < 0 ∧ k1 + (1 + 1 + 1 + a_y_C_L + a_y_G) = w5 ∧ 0 ≤ w5 :=
  ⟨k1 + 1, k1 + 1 + 1, k1 + 1 + 1 + 1, k1 + 1 + 1 + 1 + a_y_C_L, k1 + 1 + 1 + 1 + a_y_C_L + a_y_G, rfl, wrap_i64 (by omega) (by omega), rfl, wrap_i64 (by omega) (by omega), rfl, wrap_i64 (by omega) (by omega), rfl, by omega, by omega, by omega, rfl, by omega, by omega, by omega, by omega, by omega⟩

def ctRow : XRow → Int
  | ⟨y_Id, y_L⟩ => 1 + ctVals y_L

def ctRows : List XRow → Int
  | [] => 0
  | x :: l => ctRow x + ctRows l

def mkRow : Int → XRow → XRow
  | k, ⟨y_Id, y_L⟩ => ⟨k, mkVals (k + 1) y_L⟩

def mkRows : Int → List XRow → List XRow
  | _, [] => []
  | k, x :: l => mkRow k x :: mkRows (k + ctRow x) l

theorem ctRow_pos : ∀ x : XRow, 1 ≤ ctRow x
  | ⟨y_Id, y_L⟩ => by have h_y_L := ctVals_nn y_L; simp only [ctRow]; omega

theorem ctRows_len : ∀ l : List XRow, (l.length : Int) ≤ ctRows l
  | [] => by simp [ctRows]
  | x :: l => by have h1 := ctRow_pos x; have h2 := ctRows_len l; simp only [ctRows, List.length_cons]; omega

theorem ctRows_nn (l : List XRow) : 0 ≤ ctRows l := by have := ctRows_len l; omega

@[simp] theorem mkRows_len : ∀ (k : Int) (l : List XRow), (mkRows k l).length = l.length
  | _, [] => by simp [mkRows]
  | k, x :: l => by simp [mkRows, mkRows_len]

theorem chainRow (k1 a_y_L : Int) (h0 : 0 ≤ k1) (h_y_L : 0 ≤ a_y_L) (hB : k1 + (1 + a_y_L) ≤ 4611686018427387904) :
    ∃ w1 w2 : Int, w1 = k1 + 1 ∧ IntKind.wrap .i64 (k1 + 1) = w1 ∧ w2 = w1 + a_y_L ∧ 0 ≤ w1 ∧ w2 ≤ 4611686018427387904 ∧ ¬ w2 < 0 ∧ k1 + (1 + a_y_L) = w2 ∧ 0 ≤ w2 :=
  ⟨k1 + 1, k1 + 1 + a_y_L, rfl, wrap_i64 (by omega) (by omega), rfl, by omega, by omega, by omega, by omega, by omega⟩

@[simp] theorem t184 (l : List Int) (k : Int) (h0 : 0 ≤ k) (hc : k + ctBytes l ≤ 4611686018427387904) : Gw TT 184 [.one (.own (.sl 1 (l.map eb))), vi k] = some (vi (k + ctBytes l), [(0, 0, .own (.sl 1 ((mkBytes k l).map eb)))]) := by
  refine Gw_of (F := pf184) rfl rfl ?_
  show Wp _ pb184 _ _
  unfold pb184
  generalize hM : mkBytes k l = M
  have hlen := ctBytes_len l
  repeat' first|with_reducible (first|apply Z1|apply Z2|apply Z3|apply Z4|apply Z5|apply Z6|apply Z7|apply Z8|apply Z9|apply Y1|apply Y2|apply Y3|apply Y4|apply Y5|apply Y6|apply Y7|apply Y8|apply Y9)|(with_reducible refine Xk fun K k=>?_;simp;refine k _ ?_;clear k K)|refine Xt rfl ?_|refine Xf rfl ?_
  · refine wp_loopI (σ := List Int × List Int × Int) (fun s => [(0, AV.pl 0 0 [], some (Rt.vir [C.own (D.sl 1 (s.1.map eb ++ s.2.1.map eb))])), (1, AV.v false (di s.2.2), none), (5, AV.v false (di ((s.1.length : Nat) : Int)), none)]) (fun s => M = s.1 ++ mkBytes s.2.2 s.2.1 ∧ s.2.2 + ctBytes s.2.1 = k + ctBytes l ∧ s.1.length + s.2.1.length = l.length ∧ 0 ≤ s.2.2) (fun s => s.2.1.length) ([], l, k) (by simp) ⟨hM.symm, rfl, by simp, h0⟩ ?_
    rintro ⟨pre, rest, k1⟩ ⟨h1, h2, h3, h4⟩
    simp only at h1 h2 h3 h4
    rcases rest with _ | ⟨d, rest⟩
    · unfold pl184_0
      simp only [mkBytes, ctBytes, List.append_nil, Int.add_zero] at h1 h2
      subst h1
      repeat' first|with_reducible (first|apply Z1|apply Z2|apply Z3|apply Z4|apply Z5|apply Z6|apply Z7|apply Z8|apply Z9|apply Y1|apply Y2|apply Y3|apply Y4|apply Y5|apply Y6|apply Y7|apply Y8|apply Y9)|(with_reducible refine Xk fun K k=>?_;simp;refine k _ ?_;clear k K)|refine Xt rfl ?_|refine Xf rfl ?_
      all_goals simp [pf184, h2]
    · unfold pl184_0
      simp only [mkBytes, ctBytes, mkByte, ctByte, List.length_cons] at h1 h2 h3
      have hnr := ctBytes_nn rest
      have hw : IntKind.wrap .i64 ((pre.length : Int) + 1) = (pre.length : Int) + 1 := wrap_i64 (by omega) (by omega)
      have hlt : (pre.length : Int) < (pre.length : Int) + ((rest.length : Int) + 1) := by omega
      have hl2 : (pre ++ [mkByte k1 d]).length + rest.length = l.length := by simp only [List.length_append, List.length_cons, List.length_nil]; omega
      have hB2 : k1 + (1) + ctBytes rest = k + ctBytes l := by omega
      obtain ⟨w1, hv0, hw0, hE, hZ⟩ := chainByte k1  h4  (by omega)
      rw [hE] at h1 hB2
      try simp only [← hv0] at h1
      subst h1
      repeat' (first
        | with_reducible (first | refine wp_seq ?_ | refine wp_blk ?_ | refine wp_skip ?_ | refine wp_exit ?_ | refine wp_ret ?_ | refine seqQ_norm ?_ | refine seqQ_ret ?_ | refine seqQ_exit ?_ | refine blkQ_norm ?_ | refine blkQ_ret ?_ | refine blkQ_exit ?_ | refine loopQ_norm ?_ | refine loopQ_exit ?_ | refine loopQ_ret ?_ | refine endQ_ret ?_ | refine endQ_norm ?_ | refine endE_ret ?_ | refine endE_norm ?_ | refine endI_ret ?_ | refine endI_norm ?_)
        | (with_reducible refine wp_regK fun K hK => ?_
           simp[hw0, hw, hlt]
           repeat' (with_reducible first | refine hK _ ?_ | (refine psel ?_ ?_ <;> (intro hc; (try rw [Decidable.not_not] at hc); first | (try simp [hc, hw0, hw, hlt]))))
           all_goals (clear hK; clear K))
        | (with_reducible refine wp_condE ?_
           refine ⟨_, rfl, ?_, ?_⟩ <;> (intro hc; (try simp at hc); skip)))
      all_goals first | exact ⟨(pre ++ [mkByte k1 d], rest, w1), by simp [mkByte, hv0], ⟨by simp [mkByte, hv0], hB2, hl2, hZ⟩, by simp⟩ | (exfalso; simp_all; done)

@[simp] theorem t169 (k0 : Bool) (l : List Int) (k : Int) (h0 : 0 ≤ k) (hc : k + ctBytes l ≤ 4611686018427387904) : Gw TT 169 [.one (.ro k0 (.sl 1 ((mkBytes k l).map eb))), vi k] = some (vi (k + ctBytes l), []) := by
  refine Gw_of (F := pf169) rfl rfl ?_
  show Wp _ pb169 _ _
  unfold pb169
  generalize hM : mkBytes k l = M
  have hlen := ctBytes_len l
  repeat' first|with_reducible (first|apply Z1|apply Z2|apply Z3|apply Z4|apply Z5|apply Z6|apply Z7|apply Z8|apply Z9|apply Y1|apply Y2|apply Y3|apply Y4|apply Y5|apply Y6|apply Y7|apply Y8|apply Y9)|(with_reducible refine Xk fun K k=>?_;simp;refine k _ ?_;clear k K)|refine Xt rfl ?_|refine Xf rfl ?_
  · refine wp_loopI (σ := List Int × List Int × Int) (fun s => [(0, AV.v k0 (D.sl 1 (M.map eb)), none), (1, AV.v false (di s.2.2), none), (5, AV.v false (di ((s.1.length : Nat) : Int)), none)]) (fun s => M = s.1 ++ mkBytes s.2.2 s.2.1 ∧ s.2.2 + ctBytes s.2.1 = k + ctBytes l ∧ s.1.length + s.2.1.length = l.length ∧ 0 ≤ s.2.2) (fun s => s.2.1.length) ([], l, k) (by simp [hM]) ⟨hM.symm, rfl, by simp, h0⟩ ?_
    rintro ⟨pre, rest, k1⟩ ⟨h1, h2, h3, h4⟩
    simp only at h1 h2 h3 h4
    rcases rest with _ | ⟨d, rest⟩
    · unfold pl169_0
      simp only [mkBytes, ctBytes, List.append_nil, Int.add_zero] at h1 h2
      subst h1
      repeat' first|with_reducible (first|apply Z1|apply Z2|apply Z3|apply Z4|apply Z5|apply Z6|apply Z7|apply Z8|apply Z9|apply Y1|apply Y2|apply Y3|apply Y4|apply Y5|apply Y6|apply Y7|apply Y8|apply Y9)|(with_reducible refine Xk fun K k=>?_;simp;refine k _ ?_;clear k K)|refine Xt rfl ?_|refine Xf rfl ?_
      all_goals simp [pf169, h2]
    · unfold pl169_0
      simp only [mkBytes, ctBytes, mkByte, ctByte, List.length_cons] at h1 h2 h3
      have hnr := ctBytes_nn rest
      have hw : IntKind.wrap .i64 ((pre.length : Int) + 1) = (pre.length : Int) + 1 := wrap_i64 (by omega) (by omega)
      have hlt : (pre.length : Int) < (pre.length : Int) + ((rest.length : Int) + 1) := by omega
      have hl2 : (pre ++ [mkByte k1 d]).length + rest.length = l.length := by simp only [List.length_append, List.length_cons, List.length_nil]; omega
      have hB2 : k1 + (1) + ctBytes rest = k + ctBytes l := by omega
      obtain ⟨w1, hv0, hw0, hE, hZ⟩ := chainByte k1  h4  (by omega)
      rw [hE] at h1 hB2
      try simp only [← hv0] at h1
      subst h1
      repeat' (first
        | with_reducible (first | refine wp_seq ?_ | refine wp_blk ?_ | refine wp_skip ?_ | refine wp_exit ?_ | refine wp_ret ?_ | refine seqQ_norm ?_ | refine seqQ_ret ?_ | refine seqQ_exit ?_ | refine blkQ_norm ?_ | refine blkQ_ret ?_ | refine blkQ_exit ?_ | refine loopQ_norm ?_ | refine loopQ_exit ?_ | refine loopQ_ret ?_ | refine endQ_ret ?_ | refine endQ_norm ?_ | refine endE_ret ?_ | refine endE_norm ?_ | refine endI_ret ?_ | refine endI_norm ?_)
        | (with_reducible refine wp_regK fun K hK => ?_
           simp[hw0, hw, hlt]
           repeat' (with_reducible first | refine hK _ ?_ | (refine psel ?_ ?_ <;> (intro hc; (try rw [Decidable.not_not] at hc); first | (try simp [hc, hw0, hw, hlt]))))
           all_goals (clear hK; clear K))
        | (with_reducible refine wp_condE ?_
           refine ⟨_, rfl, ?_, ?_⟩ <;> (intro hc; (try simp at hc); skip)))
      all_goals first | exact ⟨(pre ++ [mkByte k1 d], rest, w1), by simp [mkByte, hv0], ⟨by simp [mkByte, hv0], hB2, hl2, hZ⟩, by simp⟩ | (exfalso; simp_all; done)

@[simp] theorem t190 (l : List Int) (k : Int) (h0 : 0 ≤ k) (hc : k + ctInts l ≤ 4611686018427387904) : Gw TT 190 [.one (.own (.sl 1 (l.map ei))), vi k] = some (vi (k + ctInts l), [(0, 0, .own (.sl 1 ((mkInts k l).map ei)))]) := by
  refine Gw_of (F := pf190) rfl rfl ?_
  show Wp _ pb190 _ _
  unfold pb190
  generalize hM : mkInts k l = M
  have hlen := ctInts_len l
  repeat' first|with_reducible (first|apply Z1|apply Z2|apply Z3|apply Z4|apply Z5|apply Z6|apply Z7|apply Z8|apply Z9|apply Y1|apply Y2|apply Y3|apply Y4|apply Y5|apply Y6|apply Y7|apply Y8|apply Y9)|(with_reducible refine Xk fun K k=>?_;simp;refine k _ ?_;clear k K)|refine Xt rfl ?_|refine Xf rfl ?_
  · refine wp_loopI (σ := List Int × List Int × Int) (fun s => [(0, AV.pl 0 0 [], some (Rt.vir [C.own (D.sl 1 (s.1.map ei ++ s.2.1.map ei))])), (1, AV.v false (di s.2.2), none), (5, AV.v false (di ((s.1.length : Nat) : Int)), none)]) (fun s => M = s.1 ++ mkInts s.2.2 s.2.1 ∧ s.2.2 + ctInts s.2.1 = k + ctInts l ∧ s.1.length + s.2.1.length = l.length ∧ 0 ≤ s.2.2) (fun s => s.2.1.length) ([], l, k) (by simp) ⟨hM.symm, rfl, by simp, h0⟩ ?_
    rintro ⟨pre, rest, k1⟩ ⟨h1, h2, h3, h4⟩
    simp only at h1 h2 h3 h4
    rcases rest with _ | ⟨d, rest⟩
    · unfold pl190_0
      simp only [mkInts, ctInts, List.append_nil, Int.add_zero] at h1 h2
      subst h1
      repeat' first|with_reducible (first|apply Z1|apply Z2|apply Z3|apply Z4|apply Z5|apply Z6|apply Z7|apply Z8|apply Z9|apply Y1|apply Y2|apply Y3|apply Y4|apply Y5|apply Y6|apply Y7|apply Y8|apply Y9)|(with_reducible refine Xk fun K k=>?_;simp;refine k _ ?_;clear k K)|refine Xt rfl ?_|refine Xf rfl ?_
      all_goals simp [pf190, h2]
    · unfold pl190_0
      simp only [mkInts, ctInts, mkInt, ctInt, List.length_cons] at h1 h2 h3
      have hnr := ctInts_nn rest
      have hw : IntKind.wrap .i64 ((pre.length : Int) + 1) = (pre.length : Int) + 1 := wrap_i64 (by omega) (by omega)
      have hlt : (pre.length : Int) < (pre.length : Int) + ((rest.length : Int) + 1) := by omega
      have hl2 : (pre ++ [mkInt k1 d]).length + rest.length = l.length := by simp only [List.length_append, List.length_cons, List.length_nil]; omega
      have hB2 : k1 + (1) + ctInts rest = k + ctInts l := by omega
      obtain ⟨w1, hv0, hw0, hE, hZ⟩ := chainInt k1  h4  (by omega)
      rw [hE] at h1 hB2
      try simp only [← hv0] at h1
      subst h1
      repeat' (first
        | with_reducible (first | refine wp_seq ?_ | refine wp_blk ?_ | refine wp_skip ?_ | refine wp_exit ?_ | refine wp_ret ?_ | refine seqQ_norm ?_ | refine seqQ_ret ?_ | refine seqQ_exit ?_ | refine blkQ_norm ?_ | refine blkQ_ret ?_ | refine blkQ_exit ?_ | refine loopQ_norm ?_ | refine loopQ_exit ?_ | refine loopQ_ret ?_ | refine endQ_ret ?_ | refine endQ_norm ?_ | refine endE_ret ?_ | refine endE_norm ?_ | refine endI_ret ?_ | refine endI_norm ?_)
        | (with_reducible refine wp_regK fun K hK => ?_
           simp[hw0, hw, hlt]
           repeat' (with_reducible first | refine hK _ ?_ | (refine psel ?_ ?_ <;> (intro hc; (try rw [Decidable.not_not] at hc); first | (try simp [hc, hw0, hw, hlt]))))
           all_goals (clear hK; clear K))
        | (with_reducible refine wp_condE ?_
           refine ⟨_, rfl, ?_, ?_⟩ <;> (intro hc; (try simp at hc); skip)))
      all_goals first | exact ⟨(pre ++ [mkInt k1 d], rest, w1), by simp [mkInt, hv0], ⟨by simp [mkInt, hv0], hB2, hl2, hZ⟩, by simp⟩ | (exfalso; simp_all; done)

@[simp] theorem t175 (k0 : Bool) (l : List Int) (k : Int) (h0 : 0 ≤ k) (hc : k + ctInts l ≤ 4611686018427387904) : Gw TT 175 [.one (.ro k0 (.sl 1 ((mkInts k l).map ei))), vi k] = some (vi (k + ctInts l), []) := by
  refine Gw_of (F := pf175) rfl rfl ?_
  show Wp _ pb175 _ _
  unfold pb175
  generalize hM : mkInts k l = M
  have hlen := ctInts_len l
  repeat' first|with_reducible (first|apply Z1|apply Z2|apply Z3|apply Z4|apply Z5|apply Z6|apply Z7|apply Z8|apply Z9|apply Y1|apply Y2|apply Y3|apply Y4|apply Y5|apply Y6|apply Y7|apply Y8|apply Y9)|(with_reducible refine Xk fun K k=>?_;simp;refine k _ ?_;clear k K)|refine Xt rfl ?_|refine Xf rfl ?_
  · refine wp_loopI (σ := List Int × List Int × Int) (fun s => [(0, AV.v k0 (D.sl 1 (M.map ei)), none), (1, AV.v false (di s.2.2), none), (5, AV.v false (di ((s.1.length : Nat) : Int)), none)]) (fun s => M = s.1 ++ mkInts s.2.2 s.2.1 ∧ s.2.2 + ctInts s.2.1 = k + ctInts l ∧ s.1.length + s.2.1.length = l.length ∧ 0 ≤ s.2.2) (fun s => s.2.1.length) ([], l, k) (by simp [hM]) ⟨hM.symm, rfl, by simp, h0⟩ ?_
    rintro ⟨pre, rest, k1⟩ ⟨h1, h2, h3, h4⟩
    simp only at h1 h2 h3 h4
    rcases rest with _ | ⟨d, rest⟩
    · unfold pl175_0
      simp only [mkInts, ctInts, List.append_nil, Int.add_zero] at h1 h2
      subst h1
      repeat' first|with_reducible (first|apply Z1|apply Z2|apply Z3|apply Z4|apply Z5|apply Z6|apply Z7|apply Z8|apply Z9|apply Y1|apply Y2|apply Y3|apply Y4|apply Y5|apply Y6|apply Y7|apply Y8|apply Y9)|(with_reducible refine Xk fun K k=>?_;simp;refine k _ ?_;clear k K)|refine Xt rfl ?_|refine Xf rfl ?_
      all_goals simp [pf175, h2]
    · unfold pl175_0
      simp only [mkInts, ctInts, mkInt, ctInt, List.length_cons] at h1 h2 h3
      have hnr := ctInts_nn rest
      have hw : IntKind.wrap .i64 ((pre.length : Int) + 1) = (pre.length : Int) + 1 := wrap_i64 (by omega) (by omega)
      have hlt : (pre.length : Int) < (pre.length : Int) + ((rest.length : Int) + 1) := by omega
      have hl2 : (pre ++ [mkInt k1 d]).length + rest.length = l.length := by simp only [List.length_append, List.length_cons, List.length_nil]; omega
      have hB2 : k1 + (1) + ctInts rest = k + ctInts l := by omega
      obtain ⟨w1, hv0, hw0, hE, hZ⟩ := chainInt k1  h4  (by omega)
      rw [hE] at h1 hB2
      try simp only [← hv0] at h1
      subst h1
      repeat' (first
        | with_reducible (first | refine wp_seq ?_ | refine wp_blk ?_ | refine wp_skip ?_ | refine wp_exit ?_ | refine wp_ret ?_ | refine seqQ_norm ?_ | refine seqQ_ret ?_ | refine seqQ_exit ?_ | refine blkQ_norm ?_ | refine blkQ_ret ?_ | refine blkQ_exit ?_ | refine loopQ_norm ?_ | refine loopQ_exit ?_ | refine loopQ_ret ?_ | refine endQ_ret ?_ | refine endQ_norm ?_ | refine endE_ret ?_ | refine endE_norm ?_ | refine endI_ret ?_ | refine endI_norm ?_)
        | (with_reducible refine wp_regK fun K hK => ?_
           simp[hw0, hw, hlt]
           repeat' (with_reducible first | refine hK _ ?_ | (refine psel ?_ ?_ <;> (intro hc; (try rw [Decidable.not_not] at hc); first | (try simp [hc, hw0, hw, hlt]))))
           all_goals (clear hK; clear K))
        | (with_reducible refine wp_condE ?_
           refine ⟨_, rfl, ?_, ?_⟩ <;> (intro hc; (try simp at hc); skip)))
      all_goals first | exact ⟨(pre ++ [mkInt k1 d], rest, w1), by simp [mkInt, hv0], ⟨by simp [mkInt, hv0], hB2, hl2, hZ⟩, by simp⟩ | (exfalso; simp_all; done)

@[simp] theorem t187 (l : List XDead) (k : Int) (h0 : 0 ≤ k) (hc : k + ctDeads l ≤ 4611686018427387904) : Gw TT 187 [.one (.own (.sl 3 (l.map XDead.e))), vi k] = some (vi (k + ctDeads l), [(0, 0, .own (.sl 3 ((mkDeads k l).map XDead.e)))]) := by
  refine Gw_of (F := pf187) rfl rfl ?_
  show Wp _ pb187 _ _
  unfold pb187
  generalize hM : mkDeads k l = M
  have hlen := ctDeads_len l
  repeat' first|with_reducible (first|apply Z1|apply Z2|apply Z3|apply Z4|apply Z5|apply Z6|apply Z7|apply Z8|apply Z9|apply Y1|apply Y2|apply Y3|apply Y4|apply Y5|apply Y6|apply Y7|apply Y8|apply Y9)|(with_reducible refine Xk fun K k=>?_;simp;refine k _ ?_;clear k K)|refine Xt rfl ?_|refine Xf rfl ?_
  · refine wp_loopI (σ := List XDead × List XDead × Int) (fun s => [(0, AV.pl 0 0 [], some (Rt.vir [C.own (D.sl 3 (s.1.map XDead.e ++ s.2.1.map XDead.e))])), (1, AV.v false (di s.2.2), none), (5, AV.v false (di ((s.1.length : Nat) : Int)), none)]) (fun s => M = s.1 ++ mkDeads s.2.2 s.2.1 ∧ s.2.2 + ctDeads s.2.1 = k + ctDeads l ∧ s.1.length + s.2.1.length = l.length ∧ 0 ≤ s.2.2) (fun s => s.2.1.length) ([], l, k) (by simp) ⟨hM.symm, rfl, by simp, h0⟩ ?_
    rintro ⟨pre, rest, k1⟩ ⟨h1, h2, h3, h4⟩
    simp only at h1 h2 h3 h4
    rcases rest with _ | ⟨⟨y_Buf, y_Gen, y_At⟩, rest⟩
    · unfold pl187_0
      simp only [mkDeads, ctDeads, List.append_nil, Int.add_zero] at h1 h2
      subst h1
      repeat' first|with_reducible (first|apply Z1|apply Z2|apply Z3|apply Z4|apply Z5|apply Z6|apply Z7|apply Z8|apply Z9|apply Y1|apply Y2|apply Y3|apply Y4|apply Y5|apply Y6|apply Y7|apply Y8|apply Y9)|(with_reducible refine Xk fun K k=>?_;simp;refine k _ ?_;clear k K)|refine Xt rfl ?_|refine Xf rfl ?_
      all_goals simp [pf187, h2]
    · unfold pl187_0
      simp only [mkDeads, ctDeads, mkDead, ctDead, List.length_cons] at h1 h2 h3
      have hnr := ctDeads_nn rest
      have hw : IntKind.wrap .i64 ((pre.length : Int) + 1) = (pre.length : Int) + 1 := wrap_i64 (by omega) (by omega)
      have hlt : (pre.length : Int) < (pre.length : Int) + ((rest.length : Int) + 1) := by omega
      have hl2 : (pre ++ [mkDead k1 ⟨y_Buf, y_Gen, y_At⟩]).length + rest.length = l.length := by simp only [List.length_append, List.length_cons, List.length_nil]; omega
      have hB2 : k1 + (1 + 1 + 1) + ctDeads rest = k + ctDeads l := by omega
      obtain ⟨w1, w2, w3, hv0, hw0, hv1, hw1, hv2, hw2, hE, hZ⟩ := chainDead k1  h4  (by omega)
      rw [hE] at h1 hB2
      try simp only [← hv0, ← hv1, ← hv2] at h1
      subst h1
      repeat' (first
        | with_reducible (first | refine wp_seq ?_ | refine wp_blk ?_ | refine wp_skip ?_ | refine wp_exit ?_ | refine wp_ret ?_ | refine seqQ_norm ?_ | refine seqQ_ret ?_ | refine seqQ_exit ?_ | refine blkQ_norm ?_ | refine blkQ_ret ?_ | refine blkQ_exit ?_ | refine loopQ_norm ?_ | refine loopQ_exit ?_ | refine loopQ_ret ?_ | refine endQ_ret ?_ | refine endQ_norm ?_ | refine endE_ret ?_ | refine endE_norm ?_ | refine endI_ret ?_ | refine endI_norm ?_)
        | (with_reducible refine wp_regK fun K hK => ?_
           simp[hw0, hw1, hw2, hw, hlt]
           repeat' (with_reducible first | refine hK _ ?_ | (refine psel ?_ ?_ <;> (intro hc; (try rw [Decidable.not_not] at hc); first | (try simp [hc, hw0, hw1, hw2, hw, hlt]))))
           all_goals (clear hK; clear K))
        | (with_reducible refine wp_condE ?_
           refine ⟨_, rfl, ?_, ?_⟩ <;> (intro hc; (try simp at hc); skip)))
      all_goals first | exact ⟨(pre ++ [mkDead k1 ⟨y_Buf, y_Gen, y_At⟩], rest, w3), by simp [mkDead, hv0, hv1, hv2], ⟨by simp [mkDead, hv0, hv1, hv2], hB2, hl2, hZ⟩, by simp⟩ | (exfalso; simp_all; done)

@[simp] theorem t172 (k0 : Bool) (l : List XDead) (k : Int) (h0 : 0 ≤ k) (hc : k + ctDeads l ≤ 4611686018427387904) : Gw TT 172 [.one (.ro k0 (.sl 3 ((mkDeads k l).map XDead.e))), vi k] = some (vi (k + ctDeads l), []) := by
  refine Gw_of (F := pf172) rfl rfl ?_
  show Wp _ pb172 _ _
  unfold pb172
  generalize hM : mkDeads k l = M
  have hlen := ctDeads_len l
  repeat' first|with_reducible (first|apply Z1|apply Z2|apply Z3|apply Z4|apply Z5|apply Z6|apply Z7|apply Z8|apply Z9|apply Y1|apply Y2|apply Y3|apply Y4|apply Y5|apply Y6|apply Y7|apply Y8|apply Y9)|(with_reducible refine Xk fun K k=>?_;simp;refine k _ ?_;clear k K)|refine Xt rfl ?_|refine Xf rfl ?_
  · refine wp_loopI (σ := List XDead × List XDead × Int) (fun s => [(0, AV.v k0 (D.sl 3 (M.map XDead.e)), none), (1, AV.v false (di s.2.2), none), (5, AV.v false (di ((s.1.length : Nat) : Int)), none)]) (fun s => M = s.1 ++ mkDeads s.2.2 s.2.1 ∧ s.2.2 + ctDeads s.2.1 = k + ctDeads l ∧ s.1.length + s.2.1.length = l.length ∧ 0 ≤ s.2.2) (fun s => s.2.1.length) ([], l, k) (by simp [hM]) ⟨hM.symm, rfl, by simp, h0⟩ ?_
    rintro ⟨pre, rest, k1⟩ ⟨h1, h2, h3, h4⟩
    simp only at h1 h2 h3 h4
    rcases rest with _ | ⟨⟨y_Buf, y_Gen, y_At⟩, rest⟩
    · unfold pl172_0
      simp only [mkDeads, ctDeads, List.append_nil, Int.add_zero] at h1 h2
      subst h1
      repeat' first|with_reducible (first|apply Z1|apply Z2|apply Z3|apply Z4|apply Z5|apply Z6|apply Z7|apply Z8|apply Z9|apply Y1|apply Y2|apply Y3|apply Y4|apply Y5|apply Y6|apply Y7|apply Y8|apply Y9)|(with_reducible refine Xk fun K k=>?_;simp;refine k _ ?_;clear k K)|refine Xt rfl ?_|refine Xf rfl ?_
      all_goals simp [pf172, h2]
    · unfold pl172_0
      simp only [mkDeads, ctDeads, mkDead, ctDead, List.length_cons] at h1 h2 h3
      have hnr := ctDeads_nn rest
      have hw : IntKind.wrap .i64 ((pre.length : Int) + 1) = (pre.length : Int) + 1 := wrap_i64 (by omega) (by omega)
      have hlt : (pre.length : Int) < (pre.length : Int) + ((rest.length : Int) + 1) := by omega
      have hl2 : (pre ++ [mkDead k1 ⟨y_Buf, y_Gen, y_At⟩]).length + rest.length = l.length := by simp only [List.length_append, List.length_cons, List.length_nil]; omega
      have hB2 : k1 + (1 + 1 + 1) + ctDeads rest = k + ctDeads l := by omega
      obtain ⟨w1, w2, w3, hv0, hw0, hv1, hw1, hv2, hw2, hE, hZ⟩ := chainDead k1  h4  (by omega)
      rw [hE] at h1 hB2
      try simp only [← hv0, ← hv1, ← hv2] at h1
      subst h1
      repeat' (first
        | with_reducible (first | refine wp_seq ?_ | refine wp_blk ?_ | refine wp_skip ?_ | refine wp_exit ?_ | refine wp_ret ?_ | refine seqQ_norm ?_ | refine seqQ_ret ?_ | refine seqQ_exit ?_ | refine blkQ_norm ?_ | refine blkQ_ret ?_ | refine blkQ_exit ?_ | refine loopQ_norm ?_ | refine loopQ_exit ?_ | refine loopQ_ret ?_ | refine endQ_ret ?_ | refine endQ_norm ?_ | refine endE_ret ?_ | refine endE_norm ?_ | refine endI_ret ?_ | refine endI_norm ?_)
        | (with_reducible refine wp_regK fun K hK => ?_
           simp[hw0, hw1, hw2, hw, hlt]
           repeat' (with_reducible first | refine hK _ ?_ | (refine psel ?_ ?_ <;> (intro hc; (try rw [Decidable.not_not] at hc); first | (try simp [hc, hw0, hw1, hw2, hw, hlt]))))
           all_goals (clear hK; clear K))
        | (with_reducible refine wp_condE ?_
           refine ⟨_, rfl, ?_, ?_⟩ <;> (intro hc; (try simp at hc); skip)))
      all_goals first | exact ⟨(pre ++ [mkDead k1 ⟨y_Buf, y_Gen, y_At⟩], rest, w3), by simp [mkDead, hv0, hv1, hv2], ⟨by simp [mkDead, hv0, hv1, hv2], hB2, hl2, hZ⟩, by simp⟩ | (exfalso; simp_all; done)

@[simp] theorem t192 (l : List XRef) (k : Int) (h0 : 0 ≤ k) (hc : k + ctRefs l ≤ 4611686018427387904) : Gw TT 192 [.one (.own (.sl 5 (l.map XRef.e))), vi k] = some (vi (k + ctRefs l), [(0, 0, .own (.sl 5 ((mkRefs k l).map XRef.e)))]) := by
  refine Gw_of (F := pf192) rfl rfl ?_
  show Wp _ pb192 _ _
  unfold pb192
  generalize hM : mkRefs k l = M
  have hlen := ctRefs_len l
  repeat' first|with_reducible (first|apply Z1|apply Z2|apply Z3|apply Z4|apply Z5|apply Z6|apply Z7|apply Z8|apply Z9|apply Y1|apply Y2|apply Y3|apply Y4|apply Y5|apply Y6|apply Y7|apply Y8|apply Y9)|(with_reducible refine Xk fun K k=>?_;simp;refine k _ ?_;clear k K)|refine Xt rfl ?_|refine Xf rfl ?_
  · refine wp_loopI (σ := List XRef × List XRef × Int) (fun s => [(0, AV.pl 0 0 [], some (Rt.vir [C.own (D.sl 5 (s.1.map XRef.e ++ s.2.1.map XRef.e))])), (1, AV.v false (di s.2.2), none), (5, AV.v false (di ((s.1.length : Nat) : Int)), none)]) (fun s => M = s.1 ++ mkRefs s.2.2 s.2.1 ∧ s.2.2 + ctRefs s.2.1 = k + ctRefs l ∧ s.1.length + s.2.1.length = l.length ∧ 0 ≤ s.2.2) (fun s => s.2.1.length) ([], l, k) (by simp) ⟨hM.symm, rfl, by simp, h0⟩ ?_
    rintro ⟨pre, rest, k1⟩ ⟨h1, h2, h3, h4⟩
    simp only at h1 h2 h3 h4
    rcases rest with _ | ⟨⟨y_Buf, y_Gen, y_Kind, y_First, y_Many⟩, rest⟩
    · unfold pl192_0
      simp only [mkRefs, ctRefs, List.append_nil, Int.add_zero] at h1 h2
      subst h1
      repeat' first|with_reducible (first|apply Z1|apply Z2|apply Z3|apply Z4|apply Z5|apply Z6|apply Z7|apply Z8|apply Z9|apply Y1|apply Y2|apply Y3|apply Y4|apply Y5|apply Y6|apply Y7|apply Y8|apply Y9)|(with_reducible refine Xk fun K k=>?_;simp;refine k _ ?_;clear k K)|refine Xt rfl ?_|refine Xf rfl ?_
      all_goals simp [pf192, h2]
    · unfold pl192_0
      simp only [mkRefs, ctRefs, mkRef, ctRef, List.length_cons] at h1 h2 h3
      have hnr := ctRefs_nn rest
      have hw : IntKind.wrap .i64 ((pre.length : Int) + 1) = (pre.length : Int) + 1 := wrap_i64 (by omega) (by omega)
      have hlt : (pre.length : Int) < (pre.length : Int) + ((rest.length : Int) + 1) := by omega
      have hl2 : (pre ++ [mkRef k1 ⟨y_Buf, y_Gen, y_Kind, y_First, y_Many⟩]).length + rest.length = l.length := by simp only [List.length_append, List.length_cons, List.length_nil]; omega
      have hB2 : k1 + (1 + 1 + 1 + 1 + 1) + ctRefs rest = k + ctRefs l := by omega
      obtain ⟨w1, w2, w3, w4, w5, hv0, hw0, hv1, hw1, hv2, hw2, hv3, hw3, hv4, hw4, hE, hZ⟩ := chainRef k1  h4  (by omega)
      rw [hE] at h1 hB2
      try simp only [← hv0, ← hv1, ← hv2, ← hv3, ← hv4] at h1
      subst h1
      repeat' (first
        | with_reducible (first | refine wp_seq ?_ | refine wp_blk ?_ | refine wp_skip ?_ | refine wp_exit ?_ | refine wp_ret ?_ | refine seqQ_norm ?_ | refine seqQ_ret ?_ | refine seqQ_exit ?_ | refine blkQ_norm ?_ | refine blkQ_ret ?_ | refine blkQ_exit ?_ | refine loopQ_norm ?_ | refine loopQ_exit ?_ | refine loopQ_ret ?_ | refine endQ_ret ?_ | refine endQ_norm ?_ | refine endE_ret ?_ | refine endE_norm ?_ | refine endI_ret ?_ | refine endI_norm ?_)
        | (with_reducible refine wp_regK fun K hK => ?_
           simp[hw0, hw1, hw2, hw3, hw4, hw, hlt]
           repeat' (with_reducible first | refine hK _ ?_ | (refine psel ?_ ?_ <;> (intro hc; (try rw [Decidable.not_not] at hc); first | (try simp [hc, hw0, hw1, hw2, hw3, hw4, hw, hlt]))))
           all_goals (clear hK; clear K))
        | (with_reducible refine wp_condE ?_
           refine ⟨_, rfl, ?_, ?_⟩ <;> (intro hc; (try simp at hc); skip)))
      all_goals first | exact ⟨(pre ++ [mkRef k1 ⟨y_Buf, y_Gen, y_Kind, y_First, y_Many⟩], rest, w5), by simp [mkRef, hv0, hv1, hv2, hv3, hv4], ⟨by simp [mkRef, hv0, hv1, hv2, hv3, hv4], hB2, hl2, hZ⟩, by simp⟩ | (exfalso; simp_all; done)

@[simp] theorem t177 (k0 : Bool) (l : List XRef) (k : Int) (h0 : 0 ≤ k) (hc : k + ctRefs l ≤ 4611686018427387904) : Gw TT 177 [.one (.ro k0 (.sl 5 ((mkRefs k l).map XRef.e))), vi k] = some (vi (k + ctRefs l), []) := by
  refine Gw_of (F := pf177) rfl rfl ?_
  show Wp _ pb177 _ _
  unfold pb177
  generalize hM : mkRefs k l = M
  have hlen := ctRefs_len l
  repeat' first|with_reducible (first|apply Z1|apply Z2|apply Z3|apply Z4|apply Z5|apply Z6|apply Z7|apply Z8|apply Z9|apply Y1|apply Y2|apply Y3|apply Y4|apply Y5|apply Y6|apply Y7|apply Y8|apply Y9)|(with_reducible refine Xk fun K k=>?_;simp;refine k _ ?_;clear k K)|refine Xt rfl ?_|refine Xf rfl ?_
  · refine wp_loopI (σ := List XRef × List XRef × Int) (fun s => [(0, AV.v k0 (D.sl 5 (M.map XRef.e)), none), (1, AV.v false (di s.2.2), none), (5, AV.v false (di ((s.1.length : Nat) : Int)), none)]) (fun s => M = s.1 ++ mkRefs s.2.2 s.2.1 ∧ s.2.2 + ctRefs s.2.1 = k + ctRefs l ∧ s.1.length + s.2.1.length = l.length ∧ 0 ≤ s.2.2) (fun s => s.2.1.length) ([], l, k) (by simp [hM]) ⟨hM.symm, rfl, by simp, h0⟩ ?_
    rintro ⟨pre, rest, k1⟩ ⟨h1, h2, h3, h4⟩
    simp only at h1 h2 h3 h4
    rcases rest with _ | ⟨⟨y_Buf, y_Gen, y_Kind, y_First, y_Many⟩, rest⟩
    · unfold pl177_0
      simp only [mkRefs, ctRefs, List.append_nil, Int.add_zero] at h1 h2
      subst h1
      repeat' first|with_reducible (first|apply Z1|apply Z2|apply Z3|apply Z4|apply Z5|apply Z6|apply Z7|apply Z8|apply Z9|apply Y1|apply Y2|apply Y3|apply Y4|apply Y5|apply Y6|apply Y7|apply Y8|apply Y9)|(with_reducible refine Xk fun K k=>?_;simp;refine k _ ?_;clear k K)|refine Xt rfl ?_|refine Xf rfl ?_
      all_goals simp [pf177, h2]
    · unfold pl177_0
      simp only [mkRefs, ctRefs, mkRef, ctRef, List.length_cons] at h1 h2 h3
      have hnr := ctRefs_nn rest
      have hw : IntKind.wrap .i64 ((pre.length : Int) + 1) = (pre.length : Int) + 1 := wrap_i64 (by omega) (by omega)
      have hlt : (pre.length : Int) < (pre.length : Int) + ((rest.length : Int) + 1) := by omega
      have hl2 : (pre ++ [mkRef k1 ⟨y_Buf, y_Gen, y_Kind, y_First, y_Many⟩]).length + rest.length = l.length := by simp only [List.length_append, List.length_cons, List.length_nil]; omega
      have hB2 : k1 + (1 + 1 + 1 + 1 + 1) + ctRefs rest = k + ctRefs l := by omega
      obtain ⟨w1, w2, w3, w4, w5, hv0, hw0, hv1, hw1, hv2, hw2, hv3, hw3, hv4, hw4, hE, hZ⟩ := chainRef k1  h4  (by omega)
      rw [hE] at h1 hB2
      try simp only [← hv0, ← hv1, ← hv2, ← hv3, ← hv4] at h1
      subst h1
      repeat' (first
        | with_reducible (first | refine wp_seq ?_ | refine wp_blk ?_ | refine wp_skip ?_ | refine wp_exit ?_ | refine wp_ret ?_ | refine seqQ_norm ?_ | refine seqQ_ret ?_ | refine seqQ_exit ?_ | refine blkQ_norm ?_ | refine blkQ_ret ?_ | refine blkQ_exit ?_ | refine loopQ_norm ?_ | refine loopQ_exit ?_ | refine loopQ_ret ?_ | refine endQ_ret ?_ | refine endQ_norm ?_ | refine endE_ret ?_ | refine endE_norm ?_ | refine endI_ret ?_ | refine endI_norm ?_)
        | (with_reducible refine wp_regK fun K hK => ?_
           simp[hw0, hw1, hw2, hw3, hw4, hw, hlt]
           repeat' (with_reducible first | refine hK _ ?_ | (refine psel ?_ ?_ <;> (intro hc; (try rw [Decidable.not_not] at hc); first | (try simp [hc, hw0, hw1, hw2, hw3, hw4, hw, hlt]))))
           all_goals (clear hK; clear K))
        | (with_reducible refine wp_condE ?_
           refine ⟨_, rfl, ?_, ?_⟩ <;> (intro hc; (try simp at hc); skip)))
      all_goals first | exact ⟨(pre ++ [mkRef k1 ⟨y_Buf, y_Gen, y_Kind, y_First, y_Many⟩], rest, w5), by simp [mkRef, hv0, hv1, hv2, hv3, hv4], ⟨by simp [mkRef, hv0, hv1, hv2, hv3, hv4], hB2, hl2, hZ⟩, by simp⟩ | (exfalso; simp_all; done)

@[simp] theorem t197 (l : List XVal) (k : Int) (h0 : 0 ≤ k) (hc : k + ctVals l ≤ 4611686018427387904) : Gw TT 197 [.one (.own (.sl 3 (l.map XVal.e))), vi k] = some (vi (k + ctVals l), [(0, 0, .own (.sl 3 ((mkVals k l).map XVal.e)))]) := by
  refine Gw_of (F := pf197) rfl rfl ?_
  show Wp _ pb197 _ _
  unfold pb197
  generalize hM : mkVals k l = M
  have hlen := ctVals_len l
  repeat' first|with_reducible (first|apply Z1|apply Z2|apply Z3|apply Z4|apply Z5|apply Z6|apply Z7|apply Z8|apply Z9|apply Y1|apply Y2|apply Y3|apply Y4|apply Y5|apply Y6|apply Y7|apply Y8|apply Y9)|(with_reducible refine Xk fun K k=>?_;simp;refine k _ ?_;clear k K)|refine Xt rfl ?_|refine Xf rfl ?_
  · refine wp_loopI (σ := List XVal × List XVal × Int) (fun s => [(0, AV.pl 0 0 [], some (Rt.vir [C.own (D.sl 3 (s.1.map XVal.e ++ s.2.1.map XVal.e))])), (1, AV.v false (di s.2.2), none), (5, AV.v false (di ((s.1.length : Nat) : Int)), none)]) (fun s => M = s.1 ++ mkVals s.2.2 s.2.1 ∧ s.2.2 + ctVals s.2.1 = k + ctVals l ∧ s.1.length + s.2.1.length = l.length ∧ 0 ≤ s.2.2) (fun s => s.2.1.length) ([], l, k) (by simp) ⟨hM.symm, rfl, by simp, h0⟩ ?_
    rintro ⟨pre, rest, k1⟩ ⟨h1, h2, h3, h4⟩
    simp only at h1 h2 h3 h4
    rcases rest with _ | ⟨⟨y_Ty, y_N, y_S⟩, rest⟩
    · unfold pl197_0
      simp only [mkVals, ctVals, List.append_nil, Int.add_zero] at h1 h2
      subst h1
      repeat' first|with_reducible (first|apply Z1|apply Z2|apply Z3|apply Z4|apply Z5|apply Z6|apply Z7|apply Z8|apply Z9|apply Y1|apply Y2|apply Y3|apply Y4|apply Y5|apply Y6|apply Y7|apply Y8|apply Y9)|(with_reducible refine Xk fun K k=>?_;simp;refine k _ ?_;clear k K)|refine Xt rfl ?_|refine Xf rfl ?_
      all_goals simp [pf197, h2]
    · unfold pl197_0
      simp only [mkVals, ctVals, mkVal, ctVal, List.length_cons] at h1 h2 h3
      have hnr := ctVals_nn rest
      have hw : IntKind.wrap .i64 ((pre.length : Int) + 1) = (pre.length : Int) + 1 := wrap_i64 (by omega) (by omega)
      have hlt : (pre.length : Int) < (pre.length : Int) + ((rest.length : Int) + 1) := by omega
      have hl2 : (pre ++ [mkVal k1 ⟨y_Ty, y_N, y_S⟩]).length + rest.length = l.length := by simp only [List.length_append, List.length_cons, List.length_nil]; omega
      have hB2 : k1 + (1 + 1 + 1) + ctVals rest = k + ctVals l := by omega
      obtain ⟨w1, w2, w3, hv0, hw0, hv1, hw1, hv2, hw2, ht2, hE, hZ⟩ := chainVal k1  h4  (by omega)
      rw [hE] at h1 hB2
      try simp only [← hv0, ← hv1, ← hv2] at h1
      subst h1
      repeat' (first
        | with_reducible (first | refine wp_seq ?_ | refine wp_blk ?_ | refine wp_skip ?_ | refine wp_exit ?_ | refine wp_ret ?_ | refine seqQ_norm ?_ | refine seqQ_ret ?_ | refine seqQ_exit ?_ | refine blkQ_norm ?_ | refine blkQ_ret ?_ | refine blkQ_exit ?_ | refine loopQ_norm ?_ | refine loopQ_exit ?_ | refine loopQ_ret ?_ | refine endQ_ret ?_ | refine endQ_norm ?_ | refine endE_ret ?_ | refine endE_norm ?_ | refine endI_ret ?_ | refine endI_norm ?_)
        | (with_reducible refine wp_regK fun K hK => ?_
           simp[hw0, hw1, hw2, ht2, hw, hlt]
           repeat' (with_reducible first | refine hK _ ?_ | (refine psel ?_ ?_ <;> (intro hc; (try rw [Decidable.not_not] at hc); first | (try simp [hc, hw0, hw1, hw2, ht2, hw, hlt]))))
           all_goals (clear hK; clear K))
        | (with_reducible refine wp_condE ?_
           refine ⟨_, rfl, ?_, ?_⟩ <;> (intro hc; (try simp at hc); skip)))
      all_goals first | exact ⟨(pre ++ [mkVal k1 ⟨y_Ty, y_N, y_S⟩], rest, w3), by simp [mkVal, hv0, hv1, hv2], ⟨by simp [mkVal, hv0, hv1, hv2], hB2, hl2, hZ⟩, by simp⟩ | (exfalso; simp_all; done)

@[simp] theorem t181 (k0 : Bool) (l : List XVal) (k : Int) (h0 : 0 ≤ k) (hc : k + ctVals l ≤ 4611686018427387904) : Gw TT 181 [.one (.ro k0 (.sl 3 ((mkVals k l).map XVal.e))), vi k] = some (vi (k + ctVals l), []) := by
  refine Gw_of (F := pf181) rfl rfl ?_
  show Wp _ pb181 _ _
  unfold pb181
  generalize hM : mkVals k l = M
  have hlen := ctVals_len l
  repeat' first|with_reducible (first|apply Z1|apply Z2|apply Z3|apply Z4|apply Z5|apply Z6|apply Z7|apply Z8|apply Z9|apply Y1|apply Y2|apply Y3|apply Y4|apply Y5|apply Y6|apply Y7|apply Y8|apply Y9)|(with_reducible refine Xk fun K k=>?_;simp;refine k _ ?_;clear k K)|refine Xt rfl ?_|refine Xf rfl ?_
  · refine wp_loopI (σ := List XVal × List XVal × Int) (fun s => [(0, AV.v k0 (D.sl 3 (M.map XVal.e)), none), (1, AV.v false (di s.2.2), none), (5, AV.v false (di ((s.1.length : Nat) : Int)), none)]) (fun s => M = s.1 ++ mkVals s.2.2 s.2.1 ∧ s.2.2 + ctVals s.2.1 = k + ctVals l ∧ s.1.length + s.2.1.length = l.length ∧ 0 ≤ s.2.2) (fun s => s.2.1.length) ([], l, k) (by simp [hM]) ⟨hM.symm, rfl, by simp, h0⟩ ?_
    rintro ⟨pre, rest, k1⟩ ⟨h1, h2, h3, h4⟩
    simp only at h1 h2 h3 h4
    rcases rest with _ | ⟨⟨y_Ty, y_N, y_S⟩, rest⟩
    · unfold pl181_0
      simp only [mkVals, ctVals, List.append_nil, Int.add_zero] at h1 h2
      subst h1
      repeat' first|with_reducible (first|apply Z1|apply Z2|apply Z3|apply Z4|apply Z5|apply Z6|apply Z7|apply Z8|apply Z9|apply Y1|apply Y2|apply Y3|apply Y4|apply Y5|apply Y6|apply Y7|apply Y8|apply Y9)|(with_reducible refine Xk fun K k=>?_;simp;refine k _ ?_;clear k K)|refine Xt rfl ?_|refine Xf rfl ?_
      all_goals simp [pf181, h2]
    · unfold pl181_0
      simp only [mkVals, ctVals, mkVal, ctVal, List.length_cons] at h1 h2 h3
      have hnr := ctVals_nn rest
      have hw : IntKind.wrap .i64 ((pre.length : Int) + 1) = (pre.length : Int) + 1 := wrap_i64 (by omega) (by omega)
      have hlt : (pre.length : Int) < (pre.length : Int) + ((rest.length : Int) + 1) := by omega
      have hl2 : (pre ++ [mkVal k1 ⟨y_Ty, y_N, y_S⟩]).length + rest.length = l.length := by simp only [List.length_append, List.length_cons, List.length_nil]; omega
      have hB2 : k1 + (1 + 1 + 1) + ctVals rest = k + ctVals l := by omega
      obtain ⟨w1, w2, w3, hv0, hw0, hv1, hw1, hv2, hw2, ht2, hE, hZ⟩ := chainVal k1  h4  (by omega)
      rw [hE] at h1 hB2
      try simp only [← hv0, ← hv1, ← hv2] at h1
      subst h1
      repeat' (first
        | with_reducible (first | refine wp_seq ?_ | refine wp_blk ?_ | refine wp_skip ?_ | refine wp_exit ?_ | refine wp_ret ?_ | refine seqQ_norm ?_ | refine seqQ_ret ?_ | refine seqQ_exit ?_ | refine blkQ_norm ?_ | refine blkQ_ret ?_ | refine blkQ_exit ?_ | refine loopQ_norm ?_ | refine loopQ_exit ?_ | refine loopQ_ret ?_ | refine endQ_ret ?_ | refine endQ_norm ?_ | refine endE_ret ?_ | refine endE_norm ?_ | refine endI_ret ?_ | refine endI_norm ?_)
        | (with_reducible refine wp_regK fun K hK => ?_
           simp[hw0, hw1, hw2, ht2, hw, hlt]
           repeat' (with_reducible first | refine hK _ ?_ | (refine psel ?_ ?_ <;> (intro hc; (try rw [Decidable.not_not] at hc); first | (try simp [hc, hw0, hw1, hw2, ht2, hw, hlt]))))
           all_goals (clear hK; clear K))
        | (with_reducible refine wp_condE ?_
           refine ⟨_, rfl, ?_, ?_⟩ <;> (intro hc; (try simp at hc); skip)))
      all_goals first | exact ⟨(pre ++ [mkVal k1 ⟨y_Ty, y_N, y_S⟩], rest, w3), by simp [mkVal, hv0, hv1, hv2], ⟨by simp [mkVal, hv0, hv1, hv2], hB2, hl2, hZ⟩, by simp⟩ | (exfalso; simp_all; done)

@[simp] theorem t194 (l : List XSlot) (k : Int) (h0 : 0 ≤ k) (hc : k + ctSlots l ≤ 4611686018427387904) : Gw TT 194 [.one (.own (.sl 2 (l.map XSlot.e))), vi k] = some (vi (k + ctSlots l), [(0, 0, .own (.sl 2 ((mkSlots k l).map XSlot.e)))]) := by
  refine Gw_of (F := pf194) rfl rfl ?_
  show Wp _ pb194 _ _
  unfold pb194
  generalize hM : mkSlots k l = M
  have hlen := ctSlots_len l
  repeat' first|with_reducible (first|apply Z1|apply Z2|apply Z3|apply Z4|apply Z5|apply Z6|apply Z7|apply Z8|apply Z9|apply Y1|apply Y2|apply Y3|apply Y4|apply Y5|apply Y6|apply Y7|apply Y8|apply Y9)|(with_reducible refine Xk fun K k=>?_;simp;refine k _ ?_;clear k K)|refine Xt rfl ?_|refine Xf rfl ?_
  · refine wp_loopI (σ := List XSlot × List XSlot × Int) (fun s => [(0, AV.pl 0 0 [], some (Rt.vir [C.own (D.sl 2 (s.1.map XSlot.e ++ s.2.1.map XSlot.e))])), (1, AV.v false (di s.2.2), none), (5, AV.v false (di ((s.1.length : Nat) : Int)), none)]) (fun s => M = s.1 ++ mkSlots s.2.2 s.2.1 ∧ s.2.2 + ctSlots s.2.1 = k + ctSlots l ∧ s.1.length + s.2.1.length = l.length ∧ 0 ≤ s.2.2) (fun s => s.2.1.length) ([], l, k) (by simp) ⟨hM.symm, rfl, by simp, h0⟩ ?_
    rintro ⟨pre, rest, k1⟩ ⟨h1, h2, h3, h4⟩
    simp only at h1 h2 h3 h4
    rcases rest with _ | ⟨⟨y_Ins, y_L⟩, rest⟩
    · unfold pl194_0
      simp only [mkSlots, ctSlots, List.append_nil, Int.add_zero] at h1 h2
      subst h1
      repeat' first|with_reducible (first|apply Z1|apply Z2|apply Z3|apply Z4|apply Z5|apply Z6|apply Z7|apply Z8|apply Z9|apply Y1|apply Y2|apply Y3|apply Y4|apply Y5|apply Y6|apply Y7|apply Y8|apply Y9)|(with_reducible refine Xk fun K k=>?_;simp;refine k _ ?_;clear k K)|refine Xt rfl ?_|refine Xf rfl ?_
      all_goals simp [pf194, h2]
    · unfold pl194_0
      simp only [mkSlots, ctSlots, mkSlot, ctSlot, List.length_cons] at h1 h2 h3
      have hnr := ctSlots_nn rest
      have hw : IntKind.wrap .i64 ((pre.length : Int) + 1) = (pre.length : Int) + 1 := wrap_i64 (by omega) (by omega)
      have hlt : (pre.length : Int) < (pre.length : Int) + ((rest.length : Int) + 1) := by omega
      have hl2 : (pre ++ [mkSlot k1 ⟨y_Ins, y_L⟩]).length + rest.length = l.length := by simp only [List.length_append, List.length_cons, List.length_nil]; omega
      have hB2 : k1 + (1 + ctVals y_L) + ctSlots rest = k + ctSlots l := by omega
      obtain ⟨w1, w2, hv0, hw0, hv1, hz1, hy1, hg1, hE, hZ⟩ := chainSlot k1 (ctVals y_L) h4 (ctVals_nn y_L) (by omega)
      rw [hE] at h1 hB2
      try simp only [← hv0, ← hv1] at h1
      subst h1
      repeat' (first
        | with_reducible (first | refine wp_seq ?_ | refine wp_blk ?_ | refine wp_skip ?_ | refine wp_exit ?_ | refine wp_ret ?_ | refine seqQ_norm ?_ | refine seqQ_ret ?_ | refine seqQ_exit ?_ | refine blkQ_norm ?_ | refine blkQ_ret ?_ | refine blkQ_exit ?_ | refine loopQ_norm ?_ | refine loopQ_exit ?_ | refine loopQ_ret ?_ | refine endQ_ret ?_ | refine endQ_norm ?_ | refine endE_ret ?_ | refine endE_norm ?_ | refine endI_ret ?_ | refine endI_norm ?_)
        | (with_reducible refine wp_regK fun K hK => ?_
           simp[hw0, hz1, hy1, hg1, ← hv1, hw, hlt]
           repeat' (with_reducible first | refine hK _ ?_ | (refine psel ?_ ?_ <;> (intro hc; (try rw [Decidable.not_not] at hc); first | (try simp [hc, hw0, hz1, hy1, hg1, ← hv1, hw, hlt]))))
           all_goals (clear hK; clear K))
        | (with_reducible refine wp_condE ?_
           refine ⟨_, rfl, ?_, ?_⟩ <;> (intro hc; (try simp at hc); skip)))
      all_goals first | exact ⟨(pre ++ [mkSlot k1 ⟨y_Ins, y_L⟩], rest, w2), by simp [mkSlot, hv0, hv1], ⟨by simp [mkSlot, hv0, hv1], hB2, hl2, hZ⟩, by simp⟩ | (exfalso; simp_all; done)

@[simp] theorem t179 (k0 : Bool) (l : List XSlot) (k : Int) (h0 : 0 ≤ k) (hc : k + ctSlots l ≤ 4611686018427387904) : Gw TT 179 [.one (.ro k0 (.sl 2 ((mkSlots k l).map XSlot.e))), vi k] = some (vi (k + ctSlots l), []) := by
  refine Gw_of (F := pf179) rfl rfl ?_
  show Wp _ pb179 _ _
  unfold pb179
  generalize hM : mkSlots k l = M
  have hlen := ctSlots_len l
  repeat' first|with_reducible (first|apply Z1|apply Z2|apply Z3|apply Z4|apply Z5|apply Z6|apply Z7|apply Z8|apply Z9|apply Y1|apply Y2|apply Y3|apply Y4|apply Y5|apply Y6|apply Y7|apply Y8|apply Y9)|(with_reducible refine Xk fun K k=>?_;simp;refine k _ ?_;clear k K)|refine Xt rfl ?_|refine Xf rfl ?_
  · refine wp_loopI (σ := List XSlot × List XSlot × Int) (fun s => [(0, AV.v k0 (D.sl 2 (M.map XSlot.e)), none), (1, AV.v false (di s.2.2), none), (5, AV.v false (di ((s.1.length : Nat) : Int)), none)]) (fun s => M = s.1 ++ mkSlots s.2.2 s.2.1 ∧ s.2.2 + ctSlots s.2.1 = k + ctSlots l ∧ s.1.length + s.2.1.length = l.length ∧ 0 ≤ s.2.2) (fun s => s.2.1.length) ([], l, k) (by simp [hM]) ⟨hM.symm, rfl, by simp, h0⟩ ?_
    rintro ⟨pre, rest, k1⟩ ⟨h1, h2, h3, h4⟩
    simp only at h1 h2 h3 h4
    rcases rest with _ | ⟨⟨y_Ins, y_L⟩, rest⟩
    · unfold pl179_0
      simp only [mkSlots, ctSlots, List.append_nil, Int.add_zero] at h1 h2
      subst h1
      repeat' first|with_reducible (first|apply Z1|apply Z2|apply Z3|apply Z4|apply Z5|apply Z6|apply Z7|apply Z8|apply Z9|apply Y1|apply Y2|apply Y3|apply Y4|apply Y5|apply Y6|apply Y7|apply Y8|apply Y9)|(with_reducible refine Xk fun K k=>?_;simp;refine k _ ?_;clear k K)|refine Xt rfl ?_|refine Xf rfl ?_
      all_goals simp [pf179, h2]
    · unfold pl179_0
      simp only [mkSlots, ctSlots, mkSlot, ctSlot, List.length_cons] at h1 h2 h3
      have hnr := ctSlots_nn rest
      have hw : IntKind.wrap .i64 ((pre.length : Int) + 1) = (pre.length : Int) + 1 := wrap_i64 (by omega) (by omega)
      have hlt : (pre.length : Int) < (pre.length : Int) + ((rest.length : Int) + 1) := by omega
      have hl2 : (pre ++ [mkSlot k1 ⟨y_Ins, y_L⟩]).length + rest.length = l.length := by simp only [List.length_append, List.length_cons, List.length_nil]; omega
      have hB2 : k1 + (1 + ctVals y_L) + ctSlots rest = k + ctSlots l := by omega
      obtain ⟨w1, w2, hv0, hw0, hv1, hz1, hy1, hg1, hE, hZ⟩ := chainSlot k1 (ctVals y_L) h4 (ctVals_nn y_L) (by omega)
      rw [hE] at h1 hB2
      try simp only [← hv0, ← hv1] at h1
      subst h1
      repeat' (first
        | with_reducible (first | refine wp_seq ?_ | refine wp_blk ?_ | refine wp_skip ?_ | refine wp_exit ?_ | refine wp_ret ?_ | refine seqQ_norm ?_ | refine seqQ_ret ?_ | refine seqQ_exit ?_ | refine blkQ_norm ?_ | refine blkQ_ret ?_ | refine blkQ_exit ?_ | refine loopQ_norm ?_ | refine loopQ_exit ?_ | refine loopQ_ret ?_ | refine endQ_ret ?_ | refine endQ_norm ?_ | refine endE_ret ?_ | refine endE_norm ?_ | refine endI_ret ?_ | refine endI_norm ?_)
        | (with_reducible refine wp_regK fun K hK => ?_
           simp[hw0, hz1, hy1, hg1, ← hv1, hw, hlt]
           repeat' (with_reducible first | refine hK _ ?_ | (refine psel ?_ ?_ <;> (intro hc; (try rw [Decidable.not_not] at hc); first | (try simp [hc, hw0, hz1, hy1, hg1, ← hv1, hw, hlt]))))
           all_goals (clear hK; clear K))
        | (with_reducible refine wp_condE ?_
           refine ⟨_, rfl, ?_, ?_⟩ <;> (intro hc; (try simp at hc); skip)))
      all_goals first | exact ⟨(pre ++ [mkSlot k1 ⟨y_Ins, y_L⟩], rest, w2), by simp [mkSlot, hv0, hv1], ⟨by simp [mkSlot, hv0, hv1], hB2, hl2, hZ⟩, by simp⟩ | (exfalso; simp_all; done)

@[simp] theorem t183 (l : List XBuf) (k : Int) (h0 : 0 ≤ k) (hc : k + ctBufs l ≤ 4611686018427387904) : Gw TT 183 [.one (.own (.sl 5 (l.map XBuf.e))), vi k] = some (vi (k + ctBufs l), [(0, 0, .own (.sl 5 ((mkBufs k l).map XBuf.e)))]) := by
  refine Gw_of (F := pf183) rfl rfl ?_
  show Wp _ pb183 _ _
  unfold pb183
  generalize hM : mkBufs k l = M
  have hlen := ctBufs_len l
  repeat' first|with_reducible (first|apply Z1|apply Z2|apply Z3|apply Z4|apply Z5|apply Z6|apply Z7|apply Z8|apply Z9|apply Y1|apply Y2|apply Y3|apply Y4|apply Y5|apply Y6|apply Y7|apply Y8|apply Y9)|(with_reducible refine Xk fun K k=>?_;simp;refine k _ ?_;clear k K)|refine Xt rfl ?_|refine Xf rfl ?_
  · refine wp_loopI (σ := List XBuf × List XBuf × Int) (fun s => [(0, AV.pl 0 0 [], some (Rt.vir [C.own (D.sl 5 (s.1.map XBuf.e ++ s.2.1.map XBuf.e))])), (1, AV.v false (di s.2.2), none), (5, AV.v false (di ((s.1.length : Nat) : Int)), none)]) (fun s => M = s.1 ++ mkBufs s.2.2 s.2.1 ∧ s.2.2 + ctBufs s.2.1 = k + ctBufs l ∧ s.1.length + s.2.1.length = l.length ∧ 0 ≤ s.2.2) (fun s => s.2.1.length) ([], l, k) (by simp) ⟨hM.symm, rfl, by simp, h0⟩ ?_
    rintro ⟨pre, rest, k1⟩ ⟨h1, h2, h3, h4⟩
    simp only at h1 h2 h3 h4
    rcases rest with _ | ⟨⟨y_Gen, y_Kind, ⟨y_C_Next, y_C_L⟩, y_G⟩, rest⟩
    · unfold pl183_0
      simp only [mkBufs, ctBufs, List.append_nil, Int.add_zero] at h1 h2
      subst h1
      repeat' first|with_reducible (first|apply Z1|apply Z2|apply Z3|apply Z4|apply Z5|apply Z6|apply Z7|apply Z8|apply Z9|apply Y1|apply Y2|apply Y3|apply Y4|apply Y5|apply Y6|apply Y7|apply Y8|apply Y9)|(with_reducible refine Xk fun K k=>?_;simp;refine k _ ?_;clear k K)|refine Xt rfl ?_|refine Xf rfl ?_
      all_goals simp [pf183, h2]
    · unfold pl183_0
      simp only [mkBufs, ctBufs, mkBuf, ctBuf, List.length_cons] at h1 h2 h3
      have hnr := ctBufs_nn rest
      have hw : IntKind.wrap .i64 ((pre.length : Int) + 1) = (pre.length : Int) + 1 := wrap_i64 (by omega) (by omega)
      have hlt : (pre.length : Int) < (pre.length : Int) + ((rest.length : Int) + 1) := by omega
      have hl2 : (pre ++ [mkBuf k1 ⟨y_Gen, y_Kind, ⟨y_C_Next, y_C_L⟩, y_G⟩]).length + rest.length = l.length := by simp only [List.length_append, List.length_cons, List.length_nil]; omega
      have hB2 : k1 + (1 + 1 + 1 + ctSlots y_C_L + ctBytes y_G) + ctBufs rest = k + ctBufs l := by omega
      obtain ⟨w1, w2, w3, w4, w5, hv0, hw0, hv1, hw1, hv2, hw2, hv3, hz3, hy3, hg3, hv4, hz4, hy4, hg4, hE, hZ⟩ := chainBuf k1 (ctSlots y_C_L) (ctBytes y_G) h4 (ctSlots_nn y_C_L) (ctBytes_nn y_G) (by omega)
      rw [hE] at h1 hB2
      try simp only [← hv0, ← hv1, ← hv2, ← hv3, ← hv4] at h1
      subst h1
      repeat' (first
        | with_reducible (first | refine wp_seq ?_ | refine wp_blk ?_ | refine wp_skip ?_ | refine wp_exit ?_ | refine wp_ret ?_ | refine seqQ_norm ?_ | refine seqQ_ret ?_ | refine seqQ_exit ?_ | refine blkQ_norm ?_ | refine blkQ_ret ?_ | refine blkQ_exit ?_ | refine loopQ_norm ?_ | refine loopQ_exit ?_ | refine loopQ_ret ?_ | refine endQ_ret ?_ | refine endQ_norm ?_ | refine endE_ret ?_ | refine endE_norm ?_ | refine endI_ret ?_ | refine endI_norm ?_)
        | (with_reducible refine wp_regK fun K hK => ?_
           simp[hw0, hw1, hw2, hz3, hy3, hg3, ← hv3, hz4, hy4, hg4, ← hv4, hw, hlt]
           repeat' (with_reducible first | refine hK _ ?_ | (refine psel ?_ ?_ <;> (intro hc; (try rw [Decidable.not_not] at hc); first | (try simp [hc, hw0, hw1, hw2, hz3, hy3, hg3, ← hv3, hz4, hy4, hg4, ← hv4, hw, hlt]))))
           all_goals (clear hK; clear K))
        | (with_reducible refine wp_condE ?_
           refine ⟨_, rfl, ?_, ?_⟩ <;> (intro hc; (try simp at hc); skip)))
      all_goals first | exact ⟨(pre ++ [mkBuf k1 ⟨y_Gen, y_Kind, ⟨y_C_Next, y_C_L⟩, y_G⟩], rest, w5), by simp [mkBuf, hv0, hv1, hv2, hv3, hv4], ⟨by simp [mkBuf, hv0, hv1, hv2, hv3, hv4], hB2, hl2, hZ⟩, by simp⟩ | (exfalso; simp_all; done)

@[simp] theorem t168 (k0 : Bool) (l : List XBuf) (k : Int) (h0 : 0 ≤ k) (hc : k + ctBufs l ≤ 4611686018427387904) : Gw TT 168 [.one (.ro k0 (.sl 5 ((mkBufs k l).map XBuf.e))), vi k] = some (vi (k + ctBufs l), []) := by
  refine Gw_of (F := pf168) rfl rfl ?_
  show Wp _ pb168 _ _
  unfold pb168
  generalize hM : mkBufs k l = M
  have hlen := ctBufs_len l
  repeat' first|with_reducible (first|apply Z1|apply Z2|apply Z3|apply Z4|apply Z5|apply Z6|apply Z7|apply Z8|apply Z9|apply Y1|apply Y2|apply Y3|apply Y4|apply Y5|apply Y6|apply Y7|apply Y8|apply Y9)|(with_reducible refine Xk fun K k=>?_;simp;refine k _ ?_;clear k K)|refine Xt rfl ?_|refine Xf rfl ?_
  · refine wp_loopI (σ := List XBuf × List XBuf × Int) (fun s => [(0, AV.v k0 (D.sl 5 (M.map XBuf.e)), none), (1, AV.v false (di s.2.2), none), (5, AV.v false (di ((s.1.length : Nat) : Int)), none)]) (fun s => M = s.1 ++ mkBufs s.2.2 s.2.1 ∧ s.2.2 + ctBufs s.2.1 = k + ctBufs l ∧ s.1.length + s.2.1.length = l.length ∧ 0 ≤ s.2.2) (fun s => s.2.1.length) ([], l, k) (by simp [hM]) ⟨hM.symm, rfl, by simp, h0⟩ ?_
    rintro ⟨pre, rest, k1⟩ ⟨h1, h2, h3, h4⟩
    simp only at h1 h2 h3 h4
    rcases rest with _ | ⟨⟨y_Gen, y_Kind, ⟨y_C_Next, y_C_L⟩, y_G⟩, rest⟩
    · unfold pl168_0
      simp only [mkBufs, ctBufs, List.append_nil, Int.add_zero] at h1 h2
      subst h1
      repeat' first|with_reducible (first|apply Z1|apply Z2|apply Z3|apply Z4|apply Z5|apply Z6|apply Z7|apply Z8|apply Z9|apply Y1|apply Y2|apply Y3|apply Y4|apply Y5|apply Y6|apply Y7|apply Y8|apply Y9)|(with_reducible refine Xk fun K k=>?_;simp;refine k _ ?_;clear k K)|refine Xt rfl ?_|refine Xf rfl ?_
      all_goals simp [pf168, h2]
    · unfold pl168_0
      simp only [mkBufs, ctBufs, mkBuf, ctBuf, List.length_cons] at h1 h2 h3
      have hnr := ctBufs_nn rest
      have hw : IntKind.wrap .i64 ((pre.length : Int) + 1) = (pre.length : Int) + 1 := wrap_i64 (by omega) (by omega)
      have hlt : (pre.length : Int) < (pre.length : Int) + ((rest.length : Int) + 1) := by omega
      have hl2 : (pre ++ [mkBuf k1 ⟨y_Gen, y_Kind, ⟨y_C_Next, y_C_L⟩, y_G⟩]).length + rest.length = l.length := by simp only [List.length_append, List.length_cons, List.length_nil]; omega
      have hB2 : k1 + (1 + 1 + 1 + ctSlots y_C_L + ctBytes y_G) + ctBufs rest = k + ctBufs l := by omega
      obtain ⟨w1, w2, w3, w4, w5, hv0, hw0, hv1, hw1, hv2, hw2, hv3, hz3, hy3, hg3, hv4, hz4, hy4, hg4, hE, hZ⟩ := chainBuf k1 (ctSlots y_C_L) (ctBytes y_G) h4 (ctSlots_nn y_C_L) (ctBytes_nn y_G) (by omega)
      rw [hE] at h1 hB2
      try simp only [← hv0, ← hv1, ← hv2, ← hv3, ← hv4] at h1
      subst h1
      repeat' (first
        | with_reducible (first | refine wp_seq ?_ | refine wp_blk ?_ | refine wp_skip ?_ | refine wp_exit ?_ | refine wp_ret ?_ | refine seqQ_norm ?_ | refine seqQ_ret ?_ | refine seqQ_exit ?_ | refine blkQ_norm ?_ | refine blkQ_ret ?_ | refine blkQ_exit ?_ | refine loopQ_norm ?_ | refine loopQ_exit ?_ | refine loopQ_ret ?_ | refine endQ_ret ?_ | refine endQ_norm ?_ | refine endE_ret ?_ | refine endE_norm ?_ | refine endI_ret ?_ | refine endI_norm ?_)
        | (with_reducible refine wp_regK fun K hK => ?_
           simp[hw0, hw1, hw2, hz3, hy3, hg3, ← hv3, hz4, hy4, hg4, ← hv4, hw, hlt]
           repeat' (with_reducible first | refine hK _ ?_ | (refine psel ?_ ?_ <;> (intro hc; (try rw [Decidable.not_not] at hc); first | (try simp [hc, hw0, hw1, hw2, hz3, hy3, hg3, ← hv3, hz4, hy4, hg4, ← hv4, hw, hlt]))))
           all_goals (clear hK; clear K))
        | (with_reducible refine wp_condE ?_
           refine ⟨_, rfl, ?_, ?_⟩ <;> (intro hc; (try simp at hc); skip)))
      all_goals first | exact ⟨(pre ++ [mkBuf k1 ⟨y_Gen, y_Kind, ⟨y_C_Next, y_C_L⟩, y_G⟩], rest, w5), by simp [mkBuf, hv0, hv1, hv2, hv3, hv4], ⟨by simp [mkBuf, hv0, hv1, hv2, hv3, hv4], hB2, hl2, hZ⟩, by simp⟩ | (exfalso; simp_all; done)

@[simp] theorem t193 (l : List XRow) (k : Int) (h0 : 0 ≤ k) (hc : k + ctRows l ≤ 4611686018427387904) : Gw TT 193 [.one (.own (.sl 2 (l.map XRow.e))), vi k] = some (vi (k + ctRows l), [(0, 0, .own (.sl 2 ((mkRows k l).map XRow.e)))]) := by
  refine Gw_of (F := pf193) rfl rfl ?_
  show Wp _ pb193 _ _
  unfold pb193
  generalize hM : mkRows k l = M
  have hlen := ctRows_len l
  repeat' first|with_reducible (first|apply Z1|apply Z2|apply Z3|apply Z4|apply Z5|apply Z6|apply Z7|apply Z8|apply Z9|apply Y1|apply Y2|apply Y3|apply Y4|apply Y5|apply Y6|apply Y7|apply Y8|apply Y9)|(with_reducible refine Xk fun K k=>?_;simp;refine k _ ?_;clear k K)|refine Xt rfl ?_|refine Xf rfl ?_
  · refine wp_loopI (σ := List XRow × List XRow × Int) (fun s => [(0, AV.pl 0 0 [], some (Rt.vir [C.own (D.sl 2 (s.1.map XRow.e ++ s.2.1.map XRow.e))])), (1, AV.v false (di s.2.2), none), (5, AV.v false (di ((s.1.length : Nat) : Int)), none)]) (fun s => M = s.1 ++ mkRows s.2.2 s.2.1 ∧ s.2.2 + ctRows s.2.1 = k + ctRows l ∧ s.1.length + s.2.1.length = l.length ∧ 0 ≤ s.2.2) (fun s => s.2.1.length) ([], l, k) (by simp) ⟨hM.symm, rfl, by simp, h0⟩ ?_
    rintro ⟨pre, rest, k1⟩ ⟨h1, h2, h3, h4⟩
    simp only at h1 h2 h3 h4
    rcases rest with _ | ⟨⟨y_Id, y_L⟩, rest⟩
    · unfold pl193_0
      simp only [mkRows, ctRows, List.append_nil, Int.add_zero] at h1 h2
      subst h1
      repeat' first|with_reducible (first|apply Z1|apply Z2|apply Z3|apply Z4|apply Z5|apply Z6|apply Z7|apply Z8|apply Z9|apply Y1|apply Y2|apply Y3|apply Y4|apply Y5|apply Y6|apply Y7|apply Y8|apply Y9)|(with_reducible refine Xk fun K k=>?_;simp;refine k _ ?_;clear k K)|refine Xt rfl ?_|refine Xf rfl ?_
      all_goals simp [pf193, h2]
    · unfold pl193_0
      simp only [mkRows, ctRows, mkRow, ctRow, List.length_cons] at h1 h2 h3
      have hnr := ctRows_nn rest
      have hw : IntKind.wrap .i64 ((pre.length : Int) + 1) = (pre.length : Int) + 1 := wrap_i64 (by omega) (by omega)
      have hlt : (pre.length : Int) < (pre.length : Int) + ((rest.length : Int) + 1) := by omega
      have hl2 : (pre ++ [mkRow k1 ⟨y_Id, y_L⟩]).length + rest.length = l.length := by simp only [List.length_append, List.length_cons, List.length_nil]; omega
      have hB2 : k1 + (1 + ctVals y_L) + ctRows rest = k + ctRows l := by omega
      obtain ⟨w1, w2, hv0, hw0, hv1, hz1, hy1, hg1, hE, hZ⟩ := chainRow k1 (ctVals y_L) h4 (ctVals_nn y_L) (by omega)
      rw [hE] at h1 hB2
      try simp only [← hv0, ← hv1] at h1
      subst h1
      repeat' (first
        | with_reducible (first | refine wp_seq ?_ | refine wp_blk ?_ | refine wp_skip ?_ | refine wp_exit ?_ | refine wp_ret ?_ | refine seqQ_norm ?_ | refine seqQ_ret ?_ | refine seqQ_exit ?_ | refine blkQ_norm ?_ | refine blkQ_ret ?_ | refine blkQ_exit ?_ | refine loopQ_norm ?_ | refine loopQ_exit ?_ | refine loopQ_ret ?_ | refine endQ_ret ?_ | refine endQ_norm ?_ | refine endE_ret ?_ | refine endE_norm ?_ | refine endI_ret ?_ | refine endI_norm ?_)
        | (with_reducible refine wp_regK fun K hK => ?_
           simp[hw0, hz1, hy1, hg1, ← hv1, hw, hlt]
           repeat' (with_reducible first | refine hK _ ?_ | (refine psel ?_ ?_ <;> (intro hc; (try rw [Decidable.not_not] at hc); first | (try simp [hc, hw0, hz1, hy1, hg1, ← hv1, hw, hlt]))))
           all_goals (clear hK; clear K))
        | (with_reducible refine wp_condE ?_
           refine ⟨_, rfl, ?_, ?_⟩ <;> (intro hc; (try simp at hc); skip)))
      all_goals first | exact ⟨(pre ++ [mkRow k1 ⟨y_Id, y_L⟩], rest, w2), by simp [mkRow, hv0, hv1], ⟨by simp [mkRow, hv0, hv1], hB2, hl2, hZ⟩, by simp⟩ | (exfalso; simp_all; done)

@[simp] theorem t178 (k0 : Bool) (l : List XRow) (k : Int) (h0 : 0 ≤ k) (hc : k + ctRows l ≤ 4611686018427387904) : Gw TT 178 [.one (.ro k0 (.sl 2 ((mkRows k l).map XRow.e))), vi k] = some (vi (k + ctRows l), []) := by
  refine Gw_of (F := pf178) rfl rfl ?_
  show Wp _ pb178 _ _
  unfold pb178
  generalize hM : mkRows k l = M
  have hlen := ctRows_len l
  repeat' first|with_reducible (first|apply Z1|apply Z2|apply Z3|apply Z4|apply Z5|apply Z6|apply Z7|apply Z8|apply Z9|apply Y1|apply Y2|apply Y3|apply Y4|apply Y5|apply Y6|apply Y7|apply Y8|apply Y9)|(with_reducible refine Xk fun K k=>?_;simp;refine k _ ?_;clear k K)|refine Xt rfl ?_|refine Xf rfl ?_
  · refine wp_loopI (σ := List XRow × List XRow × Int) (fun s => [(0, AV.v k0 (D.sl 2 (M.map XRow.e)), none), (1, AV.v false (di s.2.2), none), (5, AV.v false (di ((s.1.length : Nat) : Int)), none)]) (fun s => M = s.1 ++ mkRows s.2.2 s.2.1 ∧ s.2.2 + ctRows s.2.1 = k + ctRows l ∧ s.1.length + s.2.1.length = l.length ∧ 0 ≤ s.2.2) (fun s => s.2.1.length) ([], l, k) (by simp [hM]) ⟨hM.symm, rfl, by simp, h0⟩ ?_
    rintro ⟨pre, rest, k1⟩ ⟨h1, h2, h3, h4⟩
    simp only at h1 h2 h3 h4
    rcases rest with _ | ⟨⟨y_Id, y_L⟩, rest⟩
    · unfold pl178_0
      simp only [mkRows, ctRows, List.append_nil, Int.add_zero] at h1 h2
      subst h1
      repeat' first|with_reducible (first|apply Z1|apply Z2|apply Z3|apply Z4|apply Z5|apply Z6|apply Z7|apply Z8|apply Z9|apply Y1|apply Y2|apply Y3|apply Y4|apply Y5|apply Y6|apply Y7|apply Y8|apply Y9)|(with_reducible refine Xk fun K k=>?_;simp;refine k _ ?_;clear k K)|refine Xt rfl ?_|refine Xf rfl ?_
      all_goals simp [pf178, h2]
    · unfold pl178_0
      simp only [mkRows, ctRows, mkRow, ctRow, List.length_cons] at h1 h2 h3
      have hnr := ctRows_nn rest
      have hw : IntKind.wrap .i64 ((pre.length : Int) + 1) = (pre.length : Int) + 1 := wrap_i64 (by omega) (by omega)
      have hlt : (pre.length : Int) < (pre.length : Int) + ((rest.length : Int) + 1) := by omega
      have hl2 : (pre ++ [mkRow k1 ⟨y_Id, y_L⟩]).length + rest.length = l.length := by simp only [List.length_append, List.length_cons, List.length_nil]; omega
      have hB2 : k1 + (1 + ctVals y_L) + ctRows rest = k + ctRows l := by omega
      obtain ⟨w1, w2, hv0, hw0, hv1, hz1, hy1, hg1, hE, hZ⟩ := chainRow k1 (ctVals y_L) h4 (ctVals_nn y_L) (by omega)
      rw [hE] at h1 hB2
      try simp only [← hv0, ← hv1] at h1
      subst h1
      repeat' (first
        | with_reducible (first | refine wp_seq ?_ | refine wp_blk ?_ | refine wp_skip ?_ | refine wp_exit ?_ | refine wp_ret ?_ | refine seqQ_norm ?_ | refine seqQ_ret ?_ | refine seqQ_exit ?_ | refine blkQ_norm ?_ | refine blkQ_ret ?_ | refine blkQ_exit ?_ | refine loopQ_norm ?_ | refine loopQ_exit ?_ | refine loopQ_ret ?_ | refine endQ_ret ?_ | refine endQ_norm ?_ | refine endE_ret ?_ | refine endE_norm ?_ | refine endI_ret ?_ | refine endI_norm ?_)
        | (with_reducible refine wp_regK fun K hK => ?_
           simp[hw0, hz1, hy1, hg1, ← hv1, hw, hlt]
           repeat' (with_reducible first | refine hK _ ?_ | (refine psel ?_ ?_ <;> (intro hc; (try rw [Decidable.not_not] at hc); first | (try simp [hc, hw0, hz1, hy1, hg1, ← hv1, hw, hlt]))))
           all_goals (clear hK; clear K))
        | (with_reducible refine wp_condE ?_
           refine ⟨_, rfl, ?_, ?_⟩ <;> (intro hc; (try simp at hc); skip)))
      all_goals first | exact ⟨(pre ++ [mkRow k1 ⟨y_Id, y_L⟩], rest, w2), by simp [mkRow, hv0, hv1], ⟨by simp [mkRow, hv0, hv1], hB2, hl2, hZ⟩, by simp⟩ | (exfalso; simp_all; done)

@[simp] theorem t189 (x_Ver : Int) (x_L : List XRef) (k : Int) (h0 : 0 ≤ k) (hc : k + ctRefs x_L ≤ 4611686018427387904) : Gw TT 189 [.st [.ro false (di x_Ver), .own (.sl 5 (x_L.map XRef.e))], vi k] = some (vi (k + ctRefs x_L), [(0, 1, .own (.sl 5 ((mkRefs (k) x_L).map XRef.e)))]) := by
  refine Gw_of (F := pf189) rfl rfl ?_
  show Wp _ pb189 _ _
  unfold pb189
  have hn_x_L := ctRefs_nn x_L
  have hz1 : 0 ≤ k := by omega
  have hy1 : k + ctRefs x_L ≤ 4611686018427387904 := by omega
  repeat' first|with_reducible (first|apply Z1|apply Z2|apply Z3|apply Z4|apply Z5|apply Z6|apply Z7|apply Z8|apply Z9|apply Y1|apply Y2|apply Y3|apply Y4|apply Y5|apply Y6|apply Y7|apply Y8|apply Y9)|(with_reducible refine Xk fun K k=>?_;simp [hz1, hy1];refine k _ ?_;clear k K)|refine Xt rfl ?_|refine Xf rfl ?_
  all_goals first | (simp [pf189]; done) | (exfalso; omega)

@[simp] theorem t174 (k0 : Bool) (x_Ver : Int) (x_L : List XRef) (k : Int) (h0 : 0 ≤ k) (hc : k + ctRefs x_L ≤ 4611686018427387904) : Gw TT 174 [.st [.ro false (di x_Ver), .ro k0 (.sl 5 ((mkRefs (k) x_L).map XRef.e))], vi k] = some (vi (k + ctRefs x_L), []) := by
  refine Gw_of (F := pf174) rfl rfl ?_
  show Wp _ pb174 _ _
  unfold pb174
  have hn_x_L := ctRefs_nn x_L
  have hz1 : 0 ≤ k := by omega
  have hy1 : k + ctRefs x_L ≤ 4611686018427387904 := by omega
  repeat' first|with_reducible (first|apply Z1|apply Z2|apply Z3|apply Z4|apply Z5|apply Z6|apply Z7|apply Z8|apply Z9|apply Y1|apply Y2|apply Y3|apply Y4|apply Y5|apply Y6|apply Y7|apply Y8|apply Y9)|(with_reducible refine Xk fun K k=>?_;simp [hz1, hy1];repeat' (with_reducible first|refine k _ ?_|(refine psel ?_ ?_<;>(intro hc;(try rw [Decidable.not_not] at hc);first|(exfalso;omega)|(try simp [hc, hz1, hy1]))));all_goals clear k K)|refine Xt rfl ?_|refine Xf rfl ?_|(with_reducible refine wp_condE ?_;refine ⟨_,rfl,?_,?_⟩<;>(intro hc;(try simp at hc);(all_goals first|(exfalso;omega)|skip)))
  all_goals first | (simp [pf174]; done) | (exfalso; omega)

@[simp] theorem t186 (x_Cols : List Int) (x_Slots : Int) (x_Bufs : Int) (k : Int) (h0 : 0 ≤ k) (hc : k + ctInts x_Cols ≤ 4611686018427387904) : Gw TT 186 [.st [.own (.sl 1 (x_Cols.map ei)), .ro false (di x_Slots), .ro false (di x_Bufs)], vi k] = some (vi (k + ctInts x_Cols), [(0, 0, .own (.sl 1 ((mkInts (k) x_Cols).map ei)))]) := by
  refine Gw_of (F := pf186) rfl rfl ?_
  show Wp _ pb186 _ _
  unfold pb186
  have hn_x_Cols := ctInts_nn x_Cols
  have hz0 : 0 ≤ k := by omega
  have hy0 : k + ctInts x_Cols ≤ 4611686018427387904 := by omega
  repeat' first|with_reducible (first|apply Z1|apply Z2|apply Z3|apply Z4|apply Z5|apply Z6|apply Z7|apply Z8|apply Z9|apply Y1|apply Y2|apply Y3|apply Y4|apply Y5|apply Y6|apply Y7|apply Y8|apply Y9)|(with_reducible refine Xk fun K k=>?_;simp [hz0, hy0];refine k _ ?_;clear k K)|refine Xt rfl ?_|refine Xf rfl ?_
  all_goals first | (simp [pf186]; done) | (exfalso; omega)

@[simp] theorem t171 (k0 : Bool) (x_Cols : List Int) (x_Slots : Int) (x_Bufs : Int) (k : Int) (h0 : 0 ≤ k) (hc : k + ctInts x_Cols ≤ 4611686018427387904) : Gw TT 171 [.st [.ro k0 (.sl 1 ((mkInts (k) x_Cols).map ei)), .ro false (di x_Slots), .ro false (di x_Bufs)], vi k] = some (vi (k + ctInts x_Cols), []) := by
  refine Gw_of (F := pf171) rfl rfl ?_
  show Wp _ pb171 _ _
  unfold pb171
  have hn_x_Cols := ctInts_nn x_Cols
  have hz0 : 0 ≤ k := by omega
  have hy0 : k + ctInts x_Cols ≤ 4611686018427387904 := by omega
  repeat' first|with_reducible (first|apply Z1|apply Z2|apply Z3|apply Z4|apply Z5|apply Z6|apply Z7|apply Z8|apply Z9|apply Y1|apply Y2|apply Y3|apply Y4|apply Y5|apply Y6|apply Y7|apply Y8|apply Y9)|(with_reducible refine Xk fun K k=>?_;simp [hz0, hy0];repeat' (with_reducible first|refine k _ ?_|(refine psel ?_ ?_<;>(intro hc;(try rw [Decidable.not_not] at hc);first|(exfalso;omega)|(try simp [hc, hz0, hy0]))));all_goals clear k K)|refine Xt rfl ?_|refine Xf rfl ?_|(with_reducible refine wp_condE ?_;refine ⟨_,rfl,?_,?_⟩<;>(intro hc;(try simp at hc);(all_goals first|(exfalso;omega)|skip)))
  all_goals first | (simp [pf171]; done) | (exfalso; omega)

@[simp] theorem take_all1 {α : Type} {n : Nat} (l r : List α) (x : α) (h : n = l.length + (r.length + 1)) : (l ++ x :: r).take n = l ++ x :: r := by
  rw [List.take_of_length_le]
  simp only [List.length_append, List.length_cons]
  omega

@[simp] theorem drop_mid1 {α : Type} {n : Nat} (l r : List α) (x : α) (h : n = l.length + 1) : (l ++ x :: r).drop n = r := by
  subst h
  rw [List.drop_append]
  simp

@[simp] theorem take_len_map {α β : Type} (f : α → β) (l : List α) : (l.map f).take l.length = l.map f := by
  rw [List.take_of_length_le]; simp

@[simp] theorem flatD_drop_map {α : Type} (f : α → List D) (l : List α) (n : Nat) (h : ∀ x, (f x).all D.scal = true) : flatD ((l.map f).drop n) = true := by
  rw [← List.map_drop]; exact flatD_map f _ h

@[simp] theorem flatD_take_map {α : Type} (f : α → List D) (l : List α) (n : Nat) (h : ∀ x, (f x).all D.scal = true) : flatD ((l.map f).take n) = true := by
  rw [← List.map_take]; exact flatD_map f _ h

@[simp] theorem t74 (k0 : Bool) (l : List XRef) (h : l.length ≤ 1048576) : Gw TT 74 [.one (.ro k0 (.sl 5 (l.map XRef.e)))] = some (.one (.own (.sl 5 (l.map XRef.e))), []) := by
  refine Gw_of (F := pf74) rfl rfl ?_
  show Wp _ pb74 _ _
  unfold pb74
  repeat' (first
    | with_reducible (first | refine wp_seq ?_ | refine wp_blk ?_ | refine wp_skip ?_ | refine wp_exit ?_ | refine wp_ret ?_ | refine seqQ_norm ?_ | refine seqQ_ret ?_ | refine seqQ_exit ?_ | refine blkQ_norm ?_ | refine blkQ_ret ?_ | refine blkQ_exit ?_ | refine loopQ_norm ?_ | refine loopQ_exit ?_ | refine loopQ_ret ?_ | refine endQ_ret ?_ | refine endQ_norm ?_ | refine endE_ret ?_ | refine endE_norm ?_ | refine endI_ret ?_ | refine endI_norm ?_)
    | (with_reducible refine wp_regK fun K hK => ?_
       simp[h]
       repeat' (with_reducible first | refine hK _ ?_ | (refine psel ?_ ?_ <;> (intro hc; (try rw [Decidable.not_not] at hc); first | (exfalso; omega) | (try simp [hc, h]))))
       all_goals (clear hK; clear K))
    | (with_reducible refine wp_condE ?_
       refine ⟨_, rfl, ?_, ?_⟩ <;> (intro hc; (try simp at hc); (all_goals first | (exfalso; omega) | skip))))
  all_goals first | (simp [pf74]; done) | (exfalso; omega)

@[simp] theorem t71 (k0 : Bool) (x_Ver : Int) (x_L : List XRef) (h : x_L.length ≤ 1048576) : Gw TT 71 [.st [.ro false (di x_Ver), .ro k0 (.sl 5 (x_L.map XRef.e))]] = some (.st [.ro false (di x_Ver), .own (.sl 5 (x_L.map XRef.e))], []) := by
  refine Gw_of (F := pf71) rfl rfl ?_
  show Wp _ pb71 _ _
  unfold pb71
  have hq : x_L.length * 40 ≤ 70368744177664 := by omega
  repeat' first|with_reducible (first|apply Z1|apply Z2|apply Z3|apply Z4|apply Z5|apply Z6|apply Z7|apply Z8|apply Z9|apply Y1|apply Y2|apply Y3|apply Y4|apply Y5|apply Y6|apply Y7|apply Y8|apply Y9)|(with_reducible refine Xk fun K k=>?_;simp [h, hq];refine k _ ?_;clear k K)|refine Xt rfl ?_|refine Xf rfl ?_
  all_goals first | (simp [pf71]; done) | (exfalso; omega)

@[simp] theorem t368 (k0 : Bool) (x_Ver : Int) (x_L : List XRef) (h : x_L.length ≤ 1048576) : Gw TT 368 [.st [.ro false (di x_Ver), .ro k0 (.sl 5 (x_L.map XRef.e))]] = some (.st [.ro false (di x_Ver), .own (.sl 5 (x_L.map XRef.e))], []) := by
  refine Gw_of (F := pf368) rfl rfl ?_
  show Wp _ pb368 _ _
  unfold pb368
  have hq : x_L.length * 40 ≤ 70368744177664 := by omega
  repeat' first|with_reducible (first|apply Z1|apply Z2|apply Z3|apply Z4|apply Z5|apply Z6|apply Z7|apply Z8|apply Z9|apply Y1|apply Y2|apply Y3|apply Y4|apply Y5|apply Y6|apply Y7|apply Y8|apply Y9)|(with_reducible refine Xk fun K k=>?_;simp [h, hq];refine k _ ?_;clear k K)|refine Xt rfl ?_|refine Xf rfl ?_
  all_goals first | (simp [pf368]; done) | (exfalso; omega)

@[simp] theorem t76 (k0 : Bool) (l : List XVal) (h : l.length ≤ 1048576) : Gw TT 76 [.one (.ro k0 (.sl 3 (l.map XVal.e)))] = some (.one (.own (.sl 3 (l.map XVal.e))), []) := by
  refine Gw_of (F := pf76) rfl rfl ?_
  show Wp _ pb76 _ _
  unfold pb76
  repeat' (first
    | with_reducible (first | refine wp_seq ?_ | refine wp_blk ?_ | refine wp_skip ?_ | refine wp_exit ?_ | refine wp_ret ?_ | refine seqQ_norm ?_ | refine seqQ_ret ?_ | refine seqQ_exit ?_ | refine blkQ_norm ?_ | refine blkQ_ret ?_ | refine blkQ_exit ?_ | refine loopQ_norm ?_ | refine loopQ_exit ?_ | refine loopQ_ret ?_ | refine endQ_ret ?_ | refine endQ_norm ?_ | refine endE_ret ?_ | refine endE_norm ?_ | refine endI_ret ?_ | refine endI_norm ?_)
    | (with_reducible refine wp_regK fun K hK => ?_
       simp[h]
       repeat' (with_reducible first | refine hK _ ?_ | (refine psel ?_ ?_ <;> (intro hc; (try rw [Decidable.not_not] at hc); first | (exfalso; omega) | (try simp [hc, h]))))
       all_goals (clear hK; clear K))
    | (with_reducible refine wp_condE ?_
       refine ⟨_, rfl, ?_, ?_⟩ <;> (intro hc; (try simp at hc); (all_goals first | (exfalso; omega) | skip))))
  all_goals first | (simp [pf76]; done) | (exfalso; omega)

@[simp] theorem t69 (k0 : Bool) (l : List Int) (h : l.length ≤ 1048576) : Gw TT 69 [.one (.ro k0 (.sl 1 (l.map eb)))] = some (.one (.own (.sl 1 (l.map eb))), []) := by
  refine Gw_of (F := pf69) rfl rfl ?_
  show Wp _ pb69 _ _
  unfold pb69
  repeat' (first
    | with_reducible (first | refine wp_seq ?_ | refine wp_blk ?_ | refine wp_skip ?_ | refine wp_exit ?_ | refine wp_ret ?_ | refine seqQ_norm ?_ | refine seqQ_ret ?_ | refine seqQ_exit ?_ | refine blkQ_norm ?_ | refine blkQ_ret ?_ | refine blkQ_exit ?_ | refine loopQ_norm ?_ | refine loopQ_exit ?_ | refine loopQ_ret ?_ | refine endQ_ret ?_ | refine endQ_norm ?_ | refine endE_ret ?_ | refine endE_norm ?_ | refine endI_ret ?_ | refine endI_norm ?_)
    | (with_reducible refine wp_regK fun K hK => ?_
       simp[h]
       repeat' (with_reducible first | refine hK _ ?_ | (refine psel ?_ ?_ <;> (intro hc; (try rw [Decidable.not_not] at hc); first | (exfalso; omega) | (try simp [hc, h]))))
       all_goals (clear hK; clear K))
    | (with_reducible refine wp_condE ?_
       refine ⟨_, rfl, ?_, ?_⟩ <;> (intro hc; (try simp at hc); (all_goals first | (exfalso; omega) | skip))))
  all_goals first | (simp [pf69]; done) | (exfalso; omega)

@[simp] theorem t70 (k0 : Bool) (x_Next : Int) (x_L : List XSlot) (h : x_L.length ≤ 1048576) (hs : XSlot.sms x_L) : Gw TT 70 [.st [.ro false (di x_Next), .ro k0 (.sl 2 (x_L.map XSlot.e))]] = some (.st [.ro false (di x_Next), .own (.sl 2 (x_L.map XSlot.e))], []) := by
  refine Gw_of (F := pf70) rfl rfl ?_
  show Wp _ pb70 _ _
  unfold pb70
  repeat' (first
    | with_reducible (first | refine wp_seq ?_ | refine wp_blk ?_ | refine wp_skip ?_ | refine wp_exit ?_ | refine wp_ret ?_ | refine seqQ_norm ?_ | refine seqQ_ret ?_ | refine seqQ_exit ?_ | refine blkQ_norm ?_ | refine blkQ_ret ?_ | refine blkQ_exit ?_ | refine loopQ_norm ?_ | refine loopQ_exit ?_ | refine loopQ_ret ?_ | refine endQ_ret ?_ | refine endQ_norm ?_ | refine endE_ret ?_ | refine endE_norm ?_ | refine endI_ret ?_ | refine endI_norm ?_)
    | (with_reducible refine wp_regK fun K hK => ?_
       simp
       repeat' (with_reducible first | refine hK _ ?_ | (refine psel ?_ ?_ <;> (intro hc; (try rw [Decidable.not_not] at hc); first | (exfalso; omega) | (try simp [hc]))))
       all_goals (clear hK; clear K))
    | (with_reducible refine wp_condE ?_
       refine ⟨_, rfl, ?_, ?_⟩ <;> (intro hc; (try simp at hc); (all_goals first | (exfalso; omega) | skip))))
  refine wp_loopI (σ := List (XSlot) × List (XSlot) × List (XSlot)) (fun s => [(1, AV.bx 1 0, some (Rt.bx [.ro false (di x_Next), .ro k0 (.sl 2 (x_L.map XSlot.e))])), (2, AV.bx 2 0, some (Rt.bx [.ro false (di 0), .own (.sl 2 [])])), (3, AV.bx 3 0, some (Rt.bx [.ro false (di x_Next), .own (.sl 2 ((s.2.2).map XSlot.e))])), (10, AV.v k0 (D.sl 2 (x_L.map XSlot.e)), none), (11, AV.v false (di (x_L.length : Nat)), none), (12, AV.v false (di ((s.1.length : Nat) : Int)), none)]) (fun s => x_L = s.1 ++ s.2.1 ∧ s.2.2 ++ s.2.1 = x_L ∧ s.2.2.length ≤ s.1.length) (fun s => s.2.1.length) ([], x_L, []) (by simp) ⟨rfl, by first | rfl | simp, Nat.le_refl _⟩ ?_
  rintro ⟨pre, rest, a⟩ ⟨h1, h2, h3⟩
  simp only at h1 h2 h3
  subst h1
  simp only [List.length_append, List.length_cons] at h
  rcases rest with _ | ⟨d, rest⟩
  · unfold pl70_0
    try simp only [List.append_nil, List.append_nil] at h2
    repeat' (first
      | with_reducible (first | refine wp_seq ?_ | refine wp_blk ?_ | refine wp_skip ?_ | refine wp_exit ?_ | refine wp_ret ?_ | refine seqQ_norm ?_ | refine seqQ_ret ?_ | refine seqQ_exit ?_ | refine blkQ_norm ?_ | refine blkQ_ret ?_ | refine blkQ_exit ?_ | refine loopQ_norm ?_ | refine loopQ_exit ?_ | refine loopQ_ret ?_ | refine endQ_ret ?_ | refine endQ_norm ?_ | refine endE_ret ?_ | refine endE_norm ?_ | refine endI_ret ?_ | refine endI_norm ?_)
      | (with_reducible refine wp_regK fun K hK => ?_
         simp
         repeat' (with_reducible first | refine hK _ ?_ | (refine psel ?_ ?_ <;> (intro hc; (try rw [Decidable.not_not] at hc); first | (exfalso; omega) | (try simp [hc]))))
         all_goals (clear hK; clear K))
      | (with_reducible refine wp_condE ?_
         refine ⟨_, rfl, ?_, ?_⟩ <;> (intro hc; (try simp at hc); (all_goals first | (exfalso; omega) | skip))))
    all_goals first | (simp_all [pf70]; done) | (simp_all [pf70]; omega)
  · unfold pl70_0
    simp only [List.length_cons] at h
    try simp only [List.append_nil] at h2
    have hw : IntKind.wrap .i64 ((pre.length : Int) + 1) = (pre.length : Int) + 1 := wrap_i64 (by omega) (by omega)
    have hd := hs d (by simp)
    simp only [XSlot.sm, and_assoc] at hd
    obtain ⟨hsm_L, hsms_L⟩ := hd
    have hq1 : (a.length + 1) * 32 ≤ 70368744177664 := by omega
    have hq2 : d.L.length * 32 ≤ 70368744177664 := by omega
    repeat' (first
      | with_reducible (first | refine wp_seq ?_ | refine wp_blk ?_ | refine wp_skip ?_ | refine wp_exit ?_ | refine wp_ret ?_ | refine seqQ_norm ?_ | refine seqQ_ret ?_ | refine seqQ_exit ?_ | refine blkQ_norm ?_ | refine blkQ_ret ?_ | refine blkQ_exit ?_ | refine loopQ_norm ?_ | refine loopQ_exit ?_ | refine loopQ_ret ?_ | refine endQ_ret ?_ | refine endQ_norm ?_ | refine endE_ret ?_ | refine endE_norm ?_ | refine endI_ret ?_ | refine endI_norm ?_)
      | (with_reducible refine wp_regK fun K hK => ?_
         simp[hw, hsm_L, hsms_L, hq1, hq2]
         repeat' (with_reducible first | refine hK _ ?_ | (refine psel ?_ ?_ <;> (intro hc; (try rw [Decidable.not_not] at hc); first | (exfalso; omega) | (try simp [hc, hw, hsm_L, hsms_L, hq1, hq2]))))
         all_goals (clear hK; clear K))
      | (with_reducible refine wp_condE ?_
         refine ⟨_, rfl, ?_, ?_⟩ <;> (intro hc; (try simp at hc); (all_goals first | (exfalso; omega) | skip))))
    all_goals first | (refine ⟨(pre ++ [d], rest, a ++ [d]), ?_, ⟨?_, ?_, ?_⟩, ?_⟩; (focus (first | (simp; done) | (simp_all; done))); (focus (simp; done)); (focus (refine Eq.trans ?_ h2; clear h2; first | (simp [*]; done) | (simp_all; done)));  (focus (simp only [List.length_append, List.length_cons, List.length_nil]; omega)); (focus (simp; done))) | (simp_all [pf70]; done) | (exfalso; omega)

@[simp] theorem t359 (k0 : Bool) (x_Next : Int) (x_L : List XSlot) (h : x_L.length ≤ 1048576) (hs : XSlot.sms x_L) : Gw TT 359 [.st [.ro false (di x_Next), .ro k0 (.sl 2 (x_L.map XSlot.e))]] = some (.st [.ro false (di x_Next), .own (.sl 2 (x_L.map XSlot.e))], []) := by
  refine Gw_of (F := pf359) rfl rfl ?_
  show Wp _ pb359 _ _
  unfold pb359
  repeat' (first
    | with_reducible (first | refine wp_seq ?_ | refine wp_blk ?_ | refine wp_skip ?_ | refine wp_exit ?_ | refine wp_ret ?_ | refine seqQ_norm ?_ | refine seqQ_ret ?_ | refine seqQ_exit ?_ | refine blkQ_norm ?_ | refine blkQ_ret ?_ | refine blkQ_exit ?_ | refine loopQ_norm ?_ | refine loopQ_exit ?_ | refine loopQ_ret ?_ | refine endQ_ret ?_ | refine endQ_norm ?_ | refine endE_ret ?_ | refine endE_norm ?_ | refine endI_ret ?_ | refine endI_norm ?_)
    | (with_reducible refine wp_regK fun K hK => ?_
       simp
       repeat' (with_reducible first | refine hK _ ?_ | (refine psel ?_ ?_ <;> (intro hc; (try rw [Decidable.not_not] at hc); first | (exfalso; omega) | (try simp [hc]))))
       all_goals (clear hK; clear K))
    | (with_reducible refine wp_condE ?_
       refine ⟨_, rfl, ?_, ?_⟩ <;> (intro hc; (try simp at hc); (all_goals first | (exfalso; omega) | skip))))
  refine wp_loopI (σ := List (XSlot) × List (XSlot) × List (XSlot)) (fun s => [(1, AV.bx 1 0, some (Rt.bx [.ro false (di x_Next), .ro k0 (.sl 2 (x_L.map XSlot.e))])), (2, AV.bx 2 0, some (Rt.bx [.ro false (di 0), .own (.sl 2 [])])), (3, AV.bx 3 0, some (Rt.bx [.ro false (di x_Next), .own (.sl 2 ((s.2.2).map XSlot.e))])), (4, AV.v false (di ((s.1.length : Nat) : Int)), none)]) (fun s => x_L = s.1 ++ s.2.1 ∧ s.2.2 ++ s.2.1 = x_L ∧ s.2.2.length ≤ s.1.length) (fun s => s.2.1.length) ([], x_L, []) (by simp) ⟨rfl, by first | rfl | simp, Nat.le_refl _⟩ ?_
  rintro ⟨pre, rest, a⟩ ⟨h1, h2, h3⟩
  simp only at h1 h2 h3
  subst h1
  simp only [List.length_append, List.length_cons] at h
  rcases rest with _ | ⟨d, rest⟩
  · unfold pl359_0
    try simp only [List.append_nil, List.append_nil] at h2
    repeat' (first
      | with_reducible (first | refine wp_seq ?_ | refine wp_blk ?_ | refine wp_skip ?_ | refine wp_exit ?_ | refine wp_ret ?_ | refine seqQ_norm ?_ | refine seqQ_ret ?_ | refine seqQ_exit ?_ | refine blkQ_norm ?_ | refine blkQ_ret ?_ | refine blkQ_exit ?_ | refine loopQ_norm ?_ | refine loopQ_exit ?_ | refine loopQ_ret ?_ | refine endQ_ret ?_ | refine endQ_norm ?_ | refine endE_ret ?_ | refine endE_norm ?_ | refine endI_ret ?_ | refine endI_norm ?_)
      | (with_reducible refine wp_regK fun K hK => ?_
         simp
         repeat' (with_reducible first | refine hK _ ?_ | (refine psel ?_ ?_ <;> (intro hc; (try rw [Decidable.not_not] at hc); first | (exfalso; omega) | (try simp [hc]))))
         all_goals (clear hK; clear K))
      | (with_reducible refine wp_condE ?_
         refine ⟨_, rfl, ?_, ?_⟩ <;> (intro hc; (try simp at hc); (all_goals first | (exfalso; omega) | skip))))
    all_goals first | (simp_all [pf359]; done) | (simp_all [pf359]; omega)
  · unfold pl359_0
    simp only [List.length_cons] at h
    try simp only [List.append_nil] at h2
    have hw : IntKind.wrap .i64 ((pre.length : Int) + 1) = (pre.length : Int) + 1 := wrap_i64 (by omega) (by omega)
    have hd := hs d (by simp)
    simp only [XSlot.sm, and_assoc] at hd
    obtain ⟨hsm_L, hsms_L⟩ := hd
    have hq1 : (a.length + 1) * 32 ≤ 70368744177664 := by omega
    have hq2 : d.L.length * 32 ≤ 70368744177664 := by omega
    repeat' (first
      | with_reducible (first | refine wp_seq ?_ | refine wp_blk ?_ | refine wp_skip ?_ | refine wp_exit ?_ | refine wp_ret ?_ | refine seqQ_norm ?_ | refine seqQ_ret ?_ | refine seqQ_exit ?_ | refine blkQ_norm ?_ | refine blkQ_ret ?_ | refine blkQ_exit ?_ | refine loopQ_norm ?_ | refine loopQ_exit ?_ | refine loopQ_ret ?_ | refine endQ_ret ?_ | refine endQ_norm ?_ | refine endE_ret ?_ | refine endE_norm ?_ | refine endI_ret ?_ | refine endI_norm ?_)
      | (with_reducible refine wp_regK fun K hK => ?_
         simp[hw, hsm_L, hsms_L, hq1, hq2]
         repeat' (with_reducible first | refine hK _ ?_ | (refine psel ?_ ?_ <;> (intro hc; (try rw [Decidable.not_not] at hc); first | (exfalso; omega) | (try simp [hc, hw, hsm_L, hsms_L, hq1, hq2]))))
         all_goals (clear hK; clear K))
      | (with_reducible refine wp_condE ?_
         refine ⟨_, rfl, ?_, ?_⟩ <;> (intro hc; (try simp at hc); (all_goals first | (exfalso; omega) | skip))))
    all_goals first | (refine ⟨(pre ++ [d], rest, a ++ [d]), ?_, ⟨?_, ?_, ?_⟩, ?_⟩; (focus (first | (simp; done) | (simp_all; done))); (focus (simp; done)); (focus (refine Eq.trans ?_ h2; clear h2; first | (simp [*]; done) | (simp_all; done)));  (focus (simp only [List.length_append, List.length_cons, List.length_nil]; omega)); (focus (simp; done))) | (simp_all [pf359]; done) | (exfalso; omega)

@[simp] theorem t73 (k0 : Bool) (l : List XBuf) (h : l.length ≤ 1048576) (hs : XBuf.sms l) : Gw TT 73 [.one (.ro k0 (.sl 5 (l.map XBuf.e)))] = some (.one (.own (.sl 5 (l.map XBuf.e))), []) := by
  refine Gw_of (F := pf73) rfl rfl ?_
  show Wp _ pb73 _ _
  unfold pb73
  repeat' (first
    | with_reducible (first | refine wp_seq ?_ | refine wp_blk ?_ | refine wp_skip ?_ | refine wp_exit ?_ | refine wp_ret ?_ | refine seqQ_norm ?_ | refine seqQ_ret ?_ | refine seqQ_exit ?_ | refine blkQ_norm ?_ | refine blkQ_ret ?_ | refine blkQ_exit ?_ | refine loopQ_norm ?_ | refine loopQ_exit ?_ | refine loopQ_ret ?_ | refine endQ_ret ?_ | refine endQ_norm ?_ | refine endE_ret ?_ | refine endE_norm ?_ | refine endI_ret ?_ | refine endI_norm ?_)
    | (with_reducible refine wp_regK fun K hK => ?_
       simp
       repeat' (with_reducible first | refine hK _ ?_ | (refine psel ?_ ?_ <;> (intro hc; (try rw [Decidable.not_not] at hc); first | (exfalso; omega) | (try simp [hc]))))
       all_goals (clear hK; clear K))
    | (with_reducible refine wp_condE ?_
       refine ⟨_, rfl, ?_, ?_⟩ <;> (intro hc; (try simp at hc); (all_goals first | (exfalso; omega) | skip))))
  refine wp_loopI (σ := List (XBuf) × List (XBuf) × List (XBuf)) (fun s => [(3, AV.pl 3 0 [], some (Rt.vir [C.own (D.sl 5 ((s.2.2).map XBuf.e))])), (7, AV.v k0 (D.sl 5 (l.map XBuf.e)), none), (8, AV.v false (di (l.length : Nat)), none), (9, AV.v false (di ((s.1.length : Nat) : Int)), none)]) (fun s => l = s.1 ++ s.2.1 ∧ s.2.2 ++ s.2.1 = l ∧ s.2.2.length ≤ s.1.length) (fun s => s.2.1.length) ([], l, []) (by simp) ⟨rfl, by first | rfl | simp, Nat.le_refl _⟩ ?_
  rintro ⟨pre, rest, a⟩ ⟨h1, h2, h3⟩
  simp only at h1 h2 h3
  subst h1
  simp only [List.length_append, List.length_cons] at h
  rcases rest with _ | ⟨d, rest⟩
  · unfold pl73_0
    try simp only [List.append_nil, List.append_nil] at h2
    repeat' (first
      | with_reducible (first | refine wp_seq ?_ | refine wp_blk ?_ | refine wp_skip ?_ | refine wp_exit ?_ | refine wp_ret ?_ | refine seqQ_norm ?_ | refine seqQ_ret ?_ | refine seqQ_exit ?_ | refine blkQ_norm ?_ | refine blkQ_ret ?_ | refine blkQ_exit ?_ | refine loopQ_norm ?_ | refine loopQ_exit ?_ | refine loopQ_ret ?_ | refine endQ_ret ?_ | refine endQ_norm ?_ | refine endE_ret ?_ | refine endE_norm ?_ | refine endI_ret ?_ | refine endI_norm ?_)
      | (with_reducible refine wp_regK fun K hK => ?_
         simp
         repeat' (with_reducible first | refine hK _ ?_ | (refine psel ?_ ?_ <;> (intro hc; (try rw [Decidable.not_not] at hc); first | (exfalso; omega) | (try simp [hc]))))
         all_goals (clear hK; clear K))
      | (with_reducible refine wp_condE ?_
         refine ⟨_, rfl, ?_, ?_⟩ <;> (intro hc; (try simp at hc); (all_goals first | (exfalso; omega) | skip))))
    all_goals first | (simp_all [pf73]; done) | (simp_all [pf73]; omega)
  · unfold pl73_0
    simp only [List.length_cons] at h
    try simp only [List.append_nil] at h2
    have hw : IntKind.wrap .i64 ((pre.length : Int) + 1) = (pre.length : Int) + 1 := wrap_i64 (by omega) (by omega)
    have hd := hs d (by simp)
    simp only [XBuf.sm, XChunk.sm, and_assoc] at hd
    obtain ⟨hsm_C_L, hsms_C_L, hsm_G⟩ := hd
    have hq1 : (a.length + 1) * 72 ≤ 70368744177664 := by omega
    have hq2 : d.G.length ≤ 70368744177664 := by omega
    repeat' (first
      | with_reducible (first | refine wp_seq ?_ | refine wp_blk ?_ | refine wp_skip ?_ | refine wp_exit ?_ | refine wp_ret ?_ | refine seqQ_norm ?_ | refine seqQ_ret ?_ | refine seqQ_exit ?_ | refine blkQ_norm ?_ | refine blkQ_ret ?_ | refine blkQ_exit ?_ | refine loopQ_norm ?_ | refine loopQ_exit ?_ | refine loopQ_ret ?_ | refine endQ_ret ?_ | refine endQ_norm ?_ | refine endE_ret ?_ | refine endE_norm ?_ | refine endI_ret ?_ | refine endI_norm ?_)
      | (with_reducible refine wp_regK fun K hK => ?_
         simp[hw, hsm_C_L, hsms_C_L, hsm_G, hq1, hq2]
         repeat' (with_reducible first | refine hK _ ?_ | (refine psel ?_ ?_ <;> (intro hc; (try rw [Decidable.not_not] at hc); first | (exfalso; omega) | (try simp [hc, hw, hsm_C_L, hsms_C_L, hsm_G, hq1, hq2]))))
         all_goals (clear hK; clear K))
      | (with_reducible refine wp_condE ?_
         refine ⟨_, rfl, ?_, ?_⟩ <;> (intro hc; (try simp at hc); (all_goals first | (exfalso; omega) | skip))))
    all_goals first | (refine ⟨(pre ++ [d], rest, a ++ [d]), ?_, ⟨?_, ?_, ?_⟩, ?_⟩; (focus (first | (simp; done) | (simp_all; done))); (focus (simp; done)); (focus (refine Eq.trans ?_ h2; clear h2; first | (simp [*]; done) | (simp_all; done)));  (focus (simp only [List.length_append, List.length_cons, List.length_nil]; omega)); (focus (simp; done))) | (simp_all [pf73]; done) | (exfalso; omega)

@[simp] theorem t363 (k0 : Bool) (x_Gen : Int) (x_Kind : Int) (x_C_Next : Int) (x_C_L : List XSlot) (x_G : List Int) (hsm_x_C_L : x_C_L.length ≤ 1048576) (hsms_x_C_L : XSlot.sms x_C_L) (hsm_x_G : x_G.length ≤ 1048576) : Gw TT 363 [.st [.ro false (di x_Gen), .ro false (di x_Kind), .ro false (di x_C_Next), .ro k0 (.sl 2 (x_C_L.map XSlot.e)), .ro k0 (.sl 1 (x_G.map eb))]] = some (.st [.ro false (di x_Gen), .ro false (di x_Kind), .ro false (di x_C_Next), .own (.sl 2 (x_C_L.map XSlot.e)), .own (.sl 1 (x_G.map eb))], []) := by
  refine Gw_of (F := pf363) rfl rfl ?_
  show Wp _ pb363 _ _
  unfold pb363
  have hq : x_G.length ≤ 70368744177664 := by omega
  repeat' first|with_reducible (first|apply Z1|apply Z2|apply Z3|apply Z4|apply Z5|apply Z6|apply Z7|apply Z8|apply Z9|apply Y1|apply Y2|apply Y3|apply Y4|apply Y5|apply Y6|apply Y7|apply Y8|apply Y9)|(with_reducible refine Xk fun K k=>?_;simp [hq, hsm_x_C_L, hsms_x_C_L, hsm_x_G];refine k _ ?_;clear k K)|refine Xt rfl ?_|refine Xf rfl ?_
  all_goals first | (simp [pf363]; done) | (exfalso; omega)

@[simp] theorem t362 (k0 : Bool) (l : List XBuf) (h : l.length ≤ 1048576) (hs : XBuf.sms l) : Gw TT 362 [.one (.ro k0 (.sl 5 (l.map XBuf.e)))] = some (.one (.own (.sl 5 (l.map XBuf.e))), []) := by
  refine Gw_of (F := pf362) rfl rfl ?_
  show Wp _ pb362 _ _
  unfold pb362
  repeat' (first
    | with_reducible (first | refine wp_seq ?_ | refine wp_blk ?_ | refine wp_skip ?_ | refine wp_exit ?_ | refine wp_ret ?_ | refine seqQ_norm ?_ | refine seqQ_ret ?_ | refine seqQ_exit ?_ | refine blkQ_norm ?_ | refine blkQ_ret ?_ | refine blkQ_exit ?_ | refine loopQ_norm ?_ | refine loopQ_exit ?_ | refine loopQ_ret ?_ | refine endQ_ret ?_ | refine endQ_norm ?_ | refine endE_ret ?_ | refine endE_norm ?_ | refine endI_ret ?_ | refine endI_norm ?_)
    | (with_reducible refine wp_regK fun K hK => ?_
       simp
       repeat' (with_reducible first | refine hK _ ?_ | (refine psel ?_ ?_ <;> (intro hc; (try rw [Decidable.not_not] at hc); first | (exfalso; omega) | (try simp [hc]))))
       all_goals (clear hK; clear K))
    | (with_reducible refine wp_condE ?_
       refine ⟨_, rfl, ?_, ?_⟩ <;> (intro hc; (try simp at hc); (all_goals first | (exfalso; omega) | skip))))
  refine wp_loopI (σ := List (XBuf) × List (XBuf) × List (XBuf)) (fun s => [(0, AV.v k0 (D.sl 5 (l.map XBuf.e)), none), (3, AV.pl 3 0 [], some (Rt.vir [C.own (D.sl 5 ((s.2.2).map XBuf.e))])), (4, AV.v false (di ((s.1.length : Nat) : Int)), none)]) (fun s => l = s.1 ++ s.2.1 ∧ s.2.2 ++ s.2.1 = l ∧ s.2.2.length ≤ s.1.length) (fun s => s.2.1.length) ([], l, []) (by simp) ⟨rfl, by first | rfl | simp, Nat.le_refl _⟩ ?_
  rintro ⟨pre, rest, a⟩ ⟨h1, h2, h3⟩
  simp only at h1 h2 h3
  subst h1
  simp only [List.length_append, List.length_cons] at h
  rcases rest with _ | ⟨d, rest⟩
  · unfold pl362_0
    try simp only [List.append_nil, List.append_nil] at h2
    repeat' (first
      | with_reducible (first | refine wp_seq ?_ | refine wp_blk ?_ | refine wp_skip ?_ | refine wp_exit ?_ | refine wp_ret ?_ | refine seqQ_norm ?_ | refine seqQ_ret ?_ | refine seqQ_exit ?_ | refine blkQ_norm ?_ | refine blkQ_ret ?_ | refine blkQ_exit ?_ | refine loopQ_norm ?_ | refine loopQ_exit ?_ | refine loopQ_ret ?_ | refine endQ_ret ?_ | refine endQ_norm ?_ | refine endE_ret ?_ | refine endE_norm ?_ | refine endI_ret ?_ | refine endI_norm ?_)
      | (with_reducible refine wp_regK fun K hK => ?_
         simp
         repeat' (with_reducible first | refine hK _ ?_ | (refine psel ?_ ?_ <;> (intro hc; (try rw [Decidable.not_not] at hc); first | (exfalso; omega) | (try simp [hc]))))
         all_goals (clear hK; clear K))
      | (with_reducible refine wp_condE ?_
         refine ⟨_, rfl, ?_, ?_⟩ <;> (intro hc; (try simp at hc); (all_goals first | (exfalso; omega) | skip))))
    all_goals first | (simp_all [pf362]; done) | (simp_all [pf362]; omega)
  · unfold pl362_0
    simp only [List.length_cons] at h
    try simp only [List.append_nil] at h2
    have hw : IntKind.wrap .i64 ((pre.length : Int) + 1) = (pre.length : Int) + 1 := wrap_i64 (by omega) (by omega)
    have hd := hs d (by simp)
    simp only [XBuf.sm, XChunk.sm, and_assoc] at hd
    obtain ⟨hsm_C_L, hsms_C_L, hsm_G⟩ := hd
    have hq1 : (a.length + 1) * 72 ≤ 70368744177664 := by omega
    have hq2 : d.G.length ≤ 70368744177664 := by omega
    repeat' (first
      | with_reducible (first | refine wp_seq ?_ | refine wp_blk ?_ | refine wp_skip ?_ | refine wp_exit ?_ | refine wp_ret ?_ | refine seqQ_norm ?_ | refine seqQ_ret ?_ | refine seqQ_exit ?_ | refine blkQ_norm ?_ | refine blkQ_ret ?_ | refine blkQ_exit ?_ | refine loopQ_norm ?_ | refine loopQ_exit ?_ | refine loopQ_ret ?_ | refine endQ_ret ?_ | refine endQ_norm ?_ | refine endE_ret ?_ | refine endE_norm ?_ | refine endI_ret ?_ | refine endI_norm ?_)
      | (with_reducible refine wp_regK fun K hK => ?_
         simp[hw, hsm_C_L, hsms_C_L, hsm_G, hq1, hq2]
         repeat' (with_reducible first | refine hK _ ?_ | (refine psel ?_ ?_ <;> (intro hc; (try rw [Decidable.not_not] at hc); first | (exfalso; omega) | (try simp [hc, hw, hsm_C_L, hsms_C_L, hsm_G, hq1, hq2]))))
         all_goals (clear hK; clear K))
      | (with_reducible refine wp_condE ?_
         refine ⟨_, rfl, ?_, ?_⟩ <;> (intro hc; (try simp at hc); (all_goals first | (exfalso; omega) | skip))))
    all_goals first | (refine ⟨(pre ++ [d], rest, a ++ [d]), ?_, ⟨?_, ?_, ?_⟩, ?_⟩; (focus (first | (simp; done) | (simp_all; done))); (focus (simp; done)); (focus (refine Eq.trans ?_ h2; clear h2; first | (simp [*]; done) | (simp_all; done)));  (focus (simp only [List.length_append, List.length_cons, List.length_nil]; omega)); (focus (simp; done))) | (simp_all [pf362]; done) | (exfalso; omega)

def stampB (n s : Int) : Bool := decide (n = -1 ∧ 0 < s)

def stampV (n s : Int) : Int := if n = -1 ∧ 0 < s then s else n

@[simp] theorem t54 (n s : Int) : Gw TT 54 [vi n, vi s] = some (.tup [vi (stampV n s), vb (stampB n s)], []) := by
  refine Gw_of (F := pf54) rfl rfl ?_
  show Wp _ pb54 _ _
  unfold pb54
  by_cases h1 : n = -1
  · by_cases h2 : 0 < s
    · repeat' first|with_reducible (first|apply Z1|apply Z2|apply Z3|apply Z4|apply Z5|apply Z6|apply Z7|apply Z8|apply Z9|apply Y1|apply Y2|apply Y3|apply Y4|apply Y5|apply Y6|apply Y7|apply Y8|apply Y9)|(with_reducible refine Xk fun K k=>?_;simp [h1, h2];refine k _ ?_;clear k K)|refine Xt rfl ?_|refine Xf rfl ?_
      all_goals first | (simp [pf54, stampV, stampB, h1, h2]; done) | (exfalso; omega)
    · repeat' first|with_reducible (first|apply Z1|apply Z2|apply Z3|apply Z4|apply Z5|apply Z6|apply Z7|apply Z8|apply Z9|apply Y1|apply Y2|apply Y3|apply Y4|apply Y5|apply Y6|apply Y7|apply Y8|apply Y9)|(with_reducible refine Xk fun K k=>?_;simp [h1, h2];refine k _ ?_;clear k K)|refine Xt rfl ?_|refine Xf rfl ?_
      all_goals first | (simp [pf54, stampV, stampB, h1, h2]; done) | (exfalso; omega)
  · repeat' first|with_reducible (first|apply Z1|apply Z2|apply Z3|apply Z4|apply Z5|apply Z6|apply Z7|apply Z8|apply Z9|apply Y1|apply Y2|apply Y3|apply Y4|apply Y5|apply Y6|apply Y7|apply Y8|apply Y9)|(with_reducible refine Xk fun K k=>?_;simp [h1];refine k _ ?_;clear k K)|refine Xt rfl ?_|refine Xf rfl ?_
    all_goals first | (simp [pf54, stampV, stampB, h1]; done) | (exfalso; omega)

@[simp] theorem t335 (n s : Int) : Gw TT 335 [vi n, vi s] = some (.tup [vi (stampV n s), vb (stampB n s)], []) := by
  refine Gw_of (F := pf335) rfl rfl ?_
  show Wp _ pb335 _ _
  unfold pb335
  by_cases h1 : n = -1
  · by_cases h2 : 0 < s
    · repeat' first|with_reducible (first|apply Z1|apply Z2|apply Z3|apply Z4|apply Z5|apply Z6|apply Z7|apply Z8|apply Z9|apply Y1|apply Y2|apply Y3|apply Y4|apply Y5|apply Y6|apply Y7|apply Y8|apply Y9)|(with_reducible refine Xk fun K k=>?_;simp [h1, h2];repeat' (with_reducible first|refine k _ ?_|(refine psel ?_ ?_<;>(intro hc;(try rw [Decidable.not_not] at hc);first|(exfalso;omega)|(try simp [hc, h1, h2]))));all_goals clear k K)|refine Xt rfl ?_|refine Xf rfl ?_|(with_reducible refine wp_condE ?_;refine ⟨_,rfl,?_,?_⟩<;>(intro hc;(try simp at hc);(all_goals first|(exfalso;omega)|skip)))
      all_goals first | (simp [pf335, stampV, stampB, h1, h2]; done) | (exfalso; omega)
    · repeat' first|with_reducible (first|apply Z1|apply Z2|apply Z3|apply Z4|apply Z5|apply Z6|apply Z7|apply Z8|apply Z9|apply Y1|apply Y2|apply Y3|apply Y4|apply Y5|apply Y6|apply Y7|apply Y8|apply Y9)|(with_reducible refine Xk fun K k=>?_;simp [h1, h2];repeat' (with_reducible first|refine k _ ?_|(refine psel ?_ ?_<;>(intro hc;(try rw [Decidable.not_not] at hc);first|(exfalso;omega)|(try simp [hc, h1, h2]))));all_goals clear k K)|refine Xt rfl ?_|refine Xf rfl ?_|(with_reducible refine wp_condE ?_;refine ⟨_,rfl,?_,?_⟩<;>(intro hc;(try simp at hc);(all_goals first|(exfalso;omega)|skip)))
      all_goals first | (simp [pf335, stampV, stampB, h1, h2]; done) | (exfalso; omega)
  · repeat' first|with_reducible (first|apply Z1|apply Z2|apply Z3|apply Z4|apply Z5|apply Z6|apply Z7|apply Z8|apply Z9|apply Y1|apply Y2|apply Y3|apply Y4|apply Y5|apply Y6|apply Y7|apply Y8|apply Y9)|(with_reducible refine Xk fun K k=>?_;simp [h1];repeat' (with_reducible first|refine k _ ?_|(refine psel ?_ ?_<;>(intro hc;(try rw [Decidable.not_not] at hc);first|(exfalso;omega)|(try simp [hc, h1]))));all_goals clear k K)|refine Xt rfl ?_|refine Xf rfl ?_|(with_reducible refine wp_condE ?_;refine ⟨_,rfl,?_,?_⟩<;>(intro hc;(try simp at hc);(all_goals first|(exfalso;omega)|skip)))
    all_goals first | (simp [pf335, stampV, stampB, h1]; done) | (exfalso; omega)

def stSlotL (i s : Int) (l : List XSlot) : List XSlot := match l[i.toNat]? with
  | some x => if 0 ≤ i then l.set i.toNat ⟨stampV x.Ins s, x.L⟩ else l
  | none => l

def stSlotB (i s : Int) (l : List XSlot) : Bool := match l[i.toNat]? with
  | some x => if 0 ≤ i then stampB x.Ins s else false
  | none => false

theorem stSlotL_len (i s : Int) (l : List XSlot) : (stSlotL i s l).length = l.length := by
  unfold stSlotL; split
  · split <;> simp
  · rfl

theorem stSlotL_sms (i s : Int) (l : List XSlot) (h : XSlot.sms l) : XSlot.sms (stSlotL i s l) := by
  unfold stSlotL; split
  · rename_i x hx
    split
    · intro y hy
      rcases List.mem_or_eq_of_mem_set hy with hy | rfl
      · exact h y hy
      · have := h x (List.mem_of_getElem? hx)
        simpa [XSlot.sm] using this
    · exact h
  · exact h

@[simp] theorem t55 (k0 : Bool) (x_Next : Int) (x_L : List XSlot) (i s : Int) (h : x_L.length ≤ 1048576) (hs : XSlot.sms x_L) : Gw TT 55 [.st [.ro false (di x_Next), .ro k0 (.sl 2 (x_L.map XSlot.e))], vi i, vi s] = some (.tup [.st [.ro false (di x_Next), .own (.sl 2 ((stSlotL i s x_L).map XSlot.e))], vb (stSlotB i s x_L)], []) := by
  refine Gw_of (F := pf55) rfl rfl ?_
  show Wp _ pb55 _ _
  unfold pb55
  have hw : IntKind.wrap .i64 ((x_L.length : Int) - 1) = (x_L.length : Int) - 1 := wrap_i64 (by omega) (by omega)
  by_cases hb : 0 ≤ i ∧ i < (x_L.length : Int)
  · obtain ⟨hb0, hb1⟩ := hb
    obtain ⟨x, hx⟩ : ∃ x, x_L[i.toNat]? = some x := ⟨_, List.getElem?_eq_getElem (by omega)⟩
    obtain ⟨hlt, he⟩ := List.getElem?_eq_some_iff.1 hx
    repeat' first|with_reducible (first|apply Z1|apply Z2|apply Z3|apply Z4|apply Z5|apply Z6|apply Z7|apply Z8|apply Z9|apply Y1|apply Y2|apply Y3|apply Y4|apply Y5|apply Y6|apply Y7|apply Y8|apply Y9)|(with_reducible refine Xk fun K k=>?_;simp [h, hs, hw, hb0, hb1, hlt, hx, he];repeat' (with_reducible first|refine k _ ?_|(refine psel ?_ ?_<;>(intro hc;(try rw [Decidable.not_not] at hc);first|(exfalso;omega)|(try simp [hc, h, hs, hw, hb0, hb1, hlt, hx, he]))));all_goals clear k K)|refine Xt rfl ?_|refine Xf rfl ?_|(with_reducible refine wp_condE ?_;refine ⟨_,rfl,?_,?_⟩<;>(intro hc;(try simp at hc);(all_goals first|(exfalso;omega)|skip)))
    all_goals first | (simp [pf55, stSlotL, stSlotB, hx, hb0, he]; done) | (exfalso; omega)
  · have hf : stSlotL i s x_L = x_L := by
      unfold stSlotL; split
      · rename_i y hy
        have := (List.getElem?_eq_some_iff.1 hy).1
        rw [if_neg (by omega)]
      · rfl
    have hg : stSlotB i s x_L = false := by
      unfold stSlotB; split
      · rename_i y hy
        have := (List.getElem?_eq_some_iff.1 hy).1
        rw [if_neg (by omega)]
      · rfl
    repeat' first|with_reducible (first|apply Z1|apply Z2|apply Z3|apply Z4|apply Z5|apply Z6|apply Z7|apply Z8|apply Z9|apply Y1|apply Y2|apply Y3|apply Y4|apply Y5|apply Y6|apply Y7|apply Y8|apply Y9)|(with_reducible refine Xk fun K k=>?_;simp [h, hs, hw];repeat' (with_reducible first|refine k _ ?_|(refine psel ?_ ?_<;>(intro hc;(try rw [Decidable.not_not] at hc);first|(exfalso;omega)|(try simp [hc, h, hs, hw]))));all_goals clear k K)|refine Xt rfl ?_|refine Xf rfl ?_|(with_reducible refine wp_condE ?_;refine ⟨_,rfl,?_,?_⟩<;>(intro hc;(try simp at hc);(all_goals first|(exfalso;omega)|skip)))
    all_goals first | (simp [pf55, hf, hg]; done) | (exfalso; omega)

@[simp] theorem t336 (k0 : Bool) (x_Next : Int) (x_L : List XSlot) (i s : Int) (h : x_L.length ≤ 1048576) (hs : XSlot.sms x_L) : Gw TT 336 [.st [.ro false (di x_Next), .ro k0 (.sl 2 (x_L.map XSlot.e))], vi i, vi s] = some (.tup [.st [.ro false (di x_Next), .own (.sl 2 ((stSlotL i s x_L).map XSlot.e))], vb (stSlotB i s x_L)], []) := by
  refine Gw_of (F := pf336) rfl rfl ?_
  show Wp _ pb336 _ _
  unfold pb336
  have hw : IntKind.wrap .i64 ((x_L.length : Int) - 1) = (x_L.length : Int) - 1 := wrap_i64 (by omega) (by omega)
  by_cases hb : 0 ≤ i ∧ i < (x_L.length : Int)
  · obtain ⟨hb0, hb1⟩ := hb
    obtain ⟨x, hx⟩ : ∃ x, x_L[i.toNat]? = some x := ⟨_, List.getElem?_eq_getElem (by omega)⟩
    obtain ⟨hlt, he⟩ := List.getElem?_eq_some_iff.1 hx
    repeat' first|with_reducible (first|apply Z1|apply Z2|apply Z3|apply Z4|apply Z5|apply Z6|apply Z7|apply Z8|apply Z9|apply Y1|apply Y2|apply Y3|apply Y4|apply Y5|apply Y6|apply Y7|apply Y8|apply Y9)|(with_reducible refine Xk fun K k=>?_;simp [h, hs, hw, hb0, hb1, hlt, hx, he];repeat' (with_reducible first|refine k _ ?_|(refine psel ?_ ?_<;>(intro hc;(try rw [Decidable.not_not] at hc);first|(exfalso;omega)|(try simp [hc, h, hs, hw, hb0, hb1, hlt, hx, he]))));all_goals clear k K)|refine Xt rfl ?_|refine Xf rfl ?_|(with_reducible refine wp_condE ?_;refine ⟨_,rfl,?_,?_⟩<;>(intro hc;(try simp at hc);(all_goals first|(exfalso;omega)|skip)))
    all_goals first | (simp [pf336, stSlotL, stSlotB, hx, hb0, he]; done) | (exfalso; omega)
  · have hf : stSlotL i s x_L = x_L := by
      unfold stSlotL; split
      · rename_i y hy
        have := (List.getElem?_eq_some_iff.1 hy).1
        rw [if_neg (by omega)]
      · rfl
    have hg : stSlotB i s x_L = false := by
      unfold stSlotB; split
      · rename_i y hy
        have := (List.getElem?_eq_some_iff.1 hy).1
        rw [if_neg (by omega)]
      · rfl
    repeat' first|with_reducible (first|apply Z1|apply Z2|apply Z3|apply Z4|apply Z5|apply Z6|apply Z7|apply Z8|apply Z9|apply Y1|apply Y2|apply Y3|apply Y4|apply Y5|apply Y6|apply Y7|apply Y8|apply Y9)|(with_reducible refine Xk fun K k=>?_;simp [h, hs, hw];repeat' (with_reducible first|refine k _ ?_|(refine psel ?_ ?_<;>(intro hc;(try rw [Decidable.not_not] at hc);first|(exfalso;omega)|(try simp [hc, h, hs, hw]))));all_goals clear k K)|refine Xt rfl ?_|refine Xf rfl ?_|(with_reducible refine wp_condE ?_;refine ⟨_,rfl,?_,?_⟩<;>(intro hc;(try simp at hc);(all_goals first|(exfalso;omega)|skip)))
    all_goals first | (simp [pf336, hf, hg]; done) | (exfalso; omega)

mutual
def ctPred : XPred → Int
  | ⟨_, _, _, _, l⟩ => 1 + 1 + 1 + 1 + 1 + 1 + ctPreds l
def ctPreds : List XPred → Int
  | [] => 0
  | x :: l => ctPred x + ctPreds l
end

mutual
def mkPred : Int → XPred → XPred
  | k, ⟨y_Kind, y_Col, y_Op, ⟨y_V_Ty, y_V_N, y_V_S⟩, y_L⟩ => ⟨k, k + 1, k + 1 + 1, ⟨k + 1 + 1 + 1, k + 1 + 1 + 1 + 1, mtext (k + 1 + 1 + 1 + 1 + 1)⟩, mkPreds (k + 1 + 1 + 1 + 1 + 1 + 1) y_L⟩
def mkPreds : Int → List XPred → List XPred
  | _, [] => []
  | k, x :: l => mkPred k x :: mkPreds (k + ctPred x) l
end

mutual
theorem ctPred_pos : ∀ x : XPred, 1 ≤ ctPred x
  | ⟨_, _, _, _, l⟩ => by have := ctPreds_nn l; simp only [ctPred]; omega
theorem ctPreds_nn : ∀ l : List XPred, 0 ≤ ctPreds l
  | [] => by simp [ctPreds]
  | x :: l => by have h1 := ctPred_pos x; have h2 := ctPreds_nn l; simp only [ctPreds]; omega
end

theorem ctPreds_len : ∀ l : List XPred, (l.length : Int) ≤ ctPreds l
  | [] => by simp [ctPreds]
  | x :: l => by have h1 := ctPred_pos x; have h2 := ctPreds_len l; simp only [ctPreds, List.length_cons]; omega

@[simp] theorem mkPreds_len : ∀ (k : Int) (l : List XPred), (mkPreds k l).length = l.length
  | _, [] => by simp [mkPreds]
  | k, x :: l => by simp [mkPreds, mkPreds_len]

theorem chainPred (k1 a_y_L : Int) (h0 : 0 ≤ k1) (h_y_L : 0 ≤ a_y_L) (hB : k1 + (1 + 1 + 1 + 1 + 1 + 1 + a_y_L) ≤ 4611686018427387904) :
    ∃ w1 w2 w3 w4 w5 w6 w7 : Int, w1 = k1 + 1 ∧ IntKind.wrap .i64 (k1 + 1) = w1 ∧ w2 = w1 + 1 ∧ IntKind.wrap .i64 (w1 + 1) = w2 ∧ w3 = w2 + 1 ∧ IntKind.wrap .i64 (w2 + 1) = w3 ∧ w4 = w3 + 1 ∧ IntKind.wrap .i64 (w3 + 1) = w4 ∧ w5 = w4 + 1 ∧ IntKind.wrap .i64 (w4 + 1) = w5 ∧ w6 = w5 + 1 ∧ IntKind.wrap .i64 (w5 + 1) = w6 ∧ w5 ≤ 4611686018427387904 ∧ w7 = w6 + a_y_L ∧ 0 ≤ w6 ∧ w7 ≤ 4611686018427387904 ∧ ¬ w7 < 0 ∧ k1 + (1 + 1 + 1 + 1 + 1 + 1 + a_y_L) = w7 ∧ 0 ≤ w7 :=
  ⟨k1 + 1, k1 + 1 + 1, k1 + 1 + 1 + 1, k1 + 1 + 1 + 1 + 1, k1 + 1 + 1 + 1 + 1 + 1, k1 + 1 + 1 + 1 + 1 + 1 + 1, k1 + 1 + 1 + 1 + 1 + 1 + 1 + a_y_L, rfl, wrap_i64 (by omega) (by omega), rfl, wrap_i64 (by omega) (by omega), rfl, wrap_i64 (by omega) (by omega), rfl, wrap_i64 (by omega) (by omega), rfl, wrap_i64 (by omega) (by omega), rfl, wrap_i64 (by omega) (by omega), by omega, rfl, by omega, by omega, by omega, by omega, by omega⟩

def ctTask : XTask → Int
  | ⟨y_Op, y_Pc, y_H, y_R, y_Id, ⟨y_Q_Kind, ⟨y_Q_P_Kind, y_Q_P_Col, y_Q_P_Op, ⟨y_Q_P_V_Ty, y_Q_P_V_N, y_Q_P_V_S⟩, y_Q_P_L⟩, y_Q_Col, y_Q_Out⟩, y_Ts, y_Ver, y_L, y_I, y_J, y_S, y_At, y_Own, y_Won, y_Got⟩ => 1 + 1 + 1 + ctVals y_R + 1 + 1 + 1 + 1 + 1 + 1 + 1 + 1 + ctPreds y_Q_P_L + 1 + ctInts y_Q_Out + 1 + 1 + ctRefs y_L + 1 + 1 + 1 + 1 + 1 + 1 + ctRows y_Got

def ctTasks : List XTask → Int
  | [] => 0
  | x :: l => ctTask x + ctTasks l

def mkTask : Int → XTask → XTask
  | k, ⟨y_Op, y_Pc, y_H, y_R, y_Id, ⟨y_Q_Kind, ⟨y_Q_P_Kind, y_Q_P_Col, y_Q_P_Op, ⟨y_Q_P_V_Ty, y_Q_P_V_N, y_Q_P_V_S⟩, y_Q_P_L⟩, y_Q_Col, y_Q_Out⟩, y_Ts, y_Ver, y_L, y_I, y_J, y_S, y_At, y_Own, y_Won, y_Got⟩ => ⟨k, k + 1, k + 1 + 1, mkVals (k + 1 + 1 + 1) y_R, k + 1 + 1 + 1 + ctVals y_R, ⟨k + 1 + 1 + 1 + ctVals y_R + 1, ⟨k + 1 + 1 + 1 + ctVals y_R + 1 + 1, k + 1 + 1 + 1 + ctVals y_R + 1 + 1 + 1, k + 1 + 1 + 1 + ctVals y_R + 1 + 1 + 1 + 1, ⟨k + 1 + 1 + 1 + ctVals y_R + 1 + 1 + 1 + 1 + 1, k + 1 + 1 + 1 + ctVals y_R + 1 + 1 + 1 + 1 + 1 + 1, mtext (k + 1 + 1 + 1 + ctVals y_R + 1 + 1 + 1 + 1 + 1 + 1 + 1)⟩, mkPreds (k + 1 + 1 + 1 + ctVals y_R + 1 + 1 + 1 + 1 + 1 + 1 + 1 + 1) y_Q_P_L⟩, k + 1 + 1 + 1 + ctVals y_R + 1 + 1 + 1 + 1 + 1 + 1 + 1 + 1 + ctPreds y_Q_P_L, mkInts (k + 1 + 1 + 1 + ctVals y_R + 1 + 1 + 1 + 1 + 1 + 1 + 1 + 1 + ctPreds y_Q_P_L + 1) y_Q_Out⟩, k + 1 + 1 + 1 + ctVals y_R + 1 + 1 + 1 + 1 + 1 + 1 + 1 + 1 + ctPreds y_Q_P_L + 1 + ctInts y_Q_Out, k + 1 + 1 + 1 + ctVals y_R + 1 + 1 + 1 + 1 + 1 + 1 + 1 + 1 + ctPreds y_Q_P_L + 1 + ctInts y_Q_Out + 1, mkRefs (k + 1 + 1 + 1 + ctVals y_R + 1 + 1 + 1 + 1 + 1 + 1 + 1 + 1 + ctPreds y_Q_P_L + 1 + ctInts y_Q_Out + 1 + 1) y_L, k + 1 + 1 + 1 + ctVals y_R + 1 + 1 + 1 + 1 + 1 + 1 + 1 + 1 + ctPreds y_Q_P_L + 1 + ctInts y_Q_Out + 1 + 1 + ctRefs y_L, k + 1 + 1 + 1 + ctVals y_R + 1 + 1 + 1 + 1 + 1 + 1 + 1 + 1 + ctPreds y_Q_P_L + 1 + ctInts y_Q_Out + 1 + 1 + ctRefs y_L + 1, k + 1 + 1 + 1 + ctVals y_R + 1 + 1 + 1 + 1 + 1 + 1 + 1 + 1 + ctPreds y_Q_P_L + 1 + ctInts y_Q_Out + 1 + 1 + ctRefs y_L + 1 + 1, k + 1 + 1 + 1 + ctVals y_R + 1 + 1 + 1 + 1 + 1 + 1 + 1 + 1 + ctPreds y_Q_P_L + 1 + ctInts y_Q_Out + 1 + 1 + ctRefs y_L + 1 + 1 + 1, k + 1 + 1 + 1 + ctVals y_R + 1 + 1 + 1 + 1 + 1 + 1 + 1 + 1 + ctPreds y_Q_P_L + 1 + ctInts y_Q_Out + 1 + 1 + ctRefs y_L + 1 + 1 + 1 + 1, ((k + 1 + 1 + 1 + ctVals y_R + 1 + 1 + 1 + 1 + 1 + 1 + 1 + 1 + ctPreds y_Q_P_L + 1 + ctInts y_Q_Out + 1 + 1 + ctRefs y_L + 1 + 1 + 1 + 1 + 1).tmod 3 == 0), mkRows (k + 1 + 1 + 1 + ctVals y_R + 1 + 1 + 1 + 1 + 1 + 1 + 1 + 1 + ctPreds y_Q_P_L + 1 + ctInts y_Q_Out + 1 + 1 + ctRefs y_L + 1 + 1 + 1 + 1 + 1 + 1) y_Got⟩

def mkTasks : Int → List XTask → List XTask
  | _, [] => []
  | k, x :: l => mkTask k x :: mkTasks (k + ctTask x) l

theorem ctTask_pos : ∀ x : XTask, 1 ≤ ctTask x
  | ⟨y_Op, y_Pc, y_H, y_R, y_Id, ⟨y_Q_Kind, ⟨y_Q_P_Kind, y_Q_P_Col, y_Q_P_Op, ⟨y_Q_P_V_Ty, y_Q_P_V_N, y_Q_P_V_S⟩, y_Q_P_L⟩, y_Q_Col, y_Q_Out⟩, y_Ts, y_Ver, y_L, y_I, y_J, y_S, y_At, y_Own, y_Won, y_Got⟩ => by have h_y_R := ctVals_nn y_R; have h_y_Q_P_L := ctPreds_nn y_Q_P_L; have h_y_Q_Out := ctInts_nn y_Q_Out; have h_y_L := ctRefs_nn y_L; have h_y_Got := ctRows_nn y_Got; simp only [ctTask]; omega

theorem ctTasks_len : ∀ l : List XTask, (l.length : Int) ≤ ctTasks l
  | [] => by simp [ctTasks]
  | x :: l => by have h1 := ctTask_pos x; have h2 := ctTasks_len l; simp only [ctTasks, List.length_cons]; omega

theorem ctTasks_nn (l : List XTask) : 0 ≤ ctTasks l := by have := ctTasks_len l; omega

@[simp] theorem mkTasks_len : ∀ (k : Int) (l : List XTask), (mkTasks k l).length = l.length
  | _, [] => by simp [mkTasks]
  | k, x :: l => by simp [mkTasks, mkTasks_len]

theorem chainTask (k1 a_y_R a_y_Q_P_L a_y_Q_Out a_y_L a_y_Got : Int) (h0 : 0 ≤ k1) (h_y_R : 0 ≤ a_y_R) (h_y_Q_P_L : 0 ≤ a_y_Q_P_L) (h_y_Q_Out : 0 ≤ a_y_Q_Out) (h_y_L : 0 ≤ a_y_L) (h_y_Got : 0 ≤ a_y_Got) (hB : k1 + (1 + 1 + 1 + a_y_R + 1 + 1 + 1 + 1 + 1 + 1 + 1 + 1 + a_y_Q_P_L + 1 + a_y_Q_Out + 1 + 1 + a_y_L + 1 + 1 + 1 + 1 + 1 + 1 + a_y_Got) ≤ 4611686018427387904) :
    ∃ w1 w2 w3 w4 w5 w6 w7 w8 w9 w10 w11 w12 w13 w14 w15 w16 w17 w18 w19 w20 w21 w22 w23 w24 w25 : Int, w1 = k1 + 1 ∧ IntKind.wrap .i64 (k1 + 1) = w1 ∧ w2 = w1 + 1 ∧ IntKind.wrap .i64 (w1 + 1) = w2 ∧ w3 = w2 + 1 ∧ IntKind.wrap .i64 (w2 + 1) = w3 ∧ w4 = w3 + a_y_R ∧ 0 ≤ w3 ∧ w4 ≤ 4611686018427387904 ∧ ¬ w4 < 0 ∧ w5 = w4 + 1 ∧ IntKind.wrap .i64 (w4 + 1) = w5 ∧ w6 = w5 + 1 ∧ IntKind.wrap .i64 (w5 + 1) = w6 ∧ w7 = w6 + 1 ∧ IntKind.wrap .i64 (w6 + 1) = w7 ∧ w8 = w7 + 1 ∧ IntKind.wrap .i64 (w7 + 1) = w8 ∧ w9 = w8 + 1 ∧ IntKind.wrap .i64 (w8 + 1) = w9 ∧ w10 = w9 + 1 ∧ IntKind.wrap .i64 (w9 + 1) = w10 ∧ w11 = w10 + 1 ∧ IntKind.wrap .i64 (w10 + 1) = w11 ∧ w12 = w11 + 1 ∧ IntKind.wrap .i64 (w11 + 1) = w12 ∧ w11 ≤ 4611686018427387904 ∧ w13 = w12 + a_y_Q_P_L ∧ 0 ≤ w12 ∧ w13 ≤ 4611686018427387904 ∧ ¬ w13 < 0 ∧ w14 = w13 + 1 ∧ IntKind.wrap .i64 (w13 + 1) = w14 ∧ w15 = w14 + a_y_Q_Out ∧ 0 ≤ w14 ∧ w15 ≤ 4611686018427387904 ∧ ¬ w15 < 0 ∧ w16 = w15 + 1 ∧ IntKind.wrap .i64 (w15 + 1) = w16 ∧ w17 = w16 + 1 ∧ IntKind.wrap .i64 (w16 + 1) = w17 ∧ w18 = w17 + a_y_L ∧ 0 ≤ w17 ∧ w18 ≤ 4611686018427387904 ∧ ¬ w18 < 0 ∧ w19 = w18 + 1 ∧ IntKind.wrap .i64 (w18 + 1) = w19 ∧ w20 = w19 + 1 ∧ IntKind.wrap .i64 (w19 + 1) = w20 ∧ w21 = w20 + 1 ∧ IntKind.wrap .i64 (w20 + 1) = w21 ∧ w22 = w21 + 1 ∧ IntKind.wrap .i64 (w21 + 1) = w22 ∧ w23 = w22 + 1 ∧ IntKind.wrap .i64 (w22 + 1) = w23 ∧ w24 = w23 + 1 ∧ IntKind.wrap .i64 (w23 + 1) = w24 ∧ w25 = w24 + a_y_Got ∧ 0 ≤ w24 ∧ w25 ≤ 4611686018427387904 ∧ ¬ w25 < 0 ∧ k1 + (1 + 1 + 1 + a_y_R + 1 + 1 + 1 + 1 + 1 + 1 + 1 + 1 + a_y_Q_P_L + 1 + a_y_Q_Out + 1 + 1 + a_y_L + 1 + 1 + 1 + 1 + 1 + 1 + a_y_Got) = w25 ∧ 0 ≤ w25 :=
  ⟨k1 + 1, k1 + 1 + 1, k1 + 1 + 1 + 1, k1 + 1 + 1 + 1 + a_y_R, k1 + 1 + 1 + 1 + a_y_R + 1, k1 + 1 + 1 + 1 + a_y_R + 1 + 1, k1 + 1 + 1 + 1 + a_y_R + 1 + 1 + 1, k1 + 1 + 1 + 1 + a_y_R + 1 + 1 + 1 + 1, k1 + 1 + 1 + 1 + a_y_R + 1 + 1 + 1 + 1 + 1, k1 + 1 + 1 + 1 + a_y_R + 1 + 1 + 1 + 1 + 1 + 1, k1 + 1 + 1 + 1 + a_y_R + 1 + 1 + 1 + 1 + 1 + 1 + 1, k1 + 1 + 1 + 1 + a_y_R + 1 + 1 + 1 + 1 + 1 + 1 + 1 + 1, k1 + 1 + 1 + 1 + a_y_R + 1 + 1 + 1 + 1 + 1 + 1 + 1 + 1 + a_y_Q_P_L, k1 + 1 + 1 + 1 + a_y_R + 1 + 1 + 1 + 1 + 1 + 1 + 1 + 1 + a_y_Q_P_L + 1, k1 + 1 + 1 + 1 + a_y_R + 1 + 1 + 1 + 1 + 1 + 1 + 1 + 1 + a_y_Q_P_L + 1 + a_y_Q_Out, k1 + 1 + 1 + 1 + a_y_R + 1 + 1 + 1 + 1 + 1 + 1 + 1 + 1 + a_y_Q_P_L + 1 + a_y_Q_Out + 1, k1 + 1 + 1 + 1 + a_y_R + 1 + 1 + 1 + 1 + 1 + 1 + 1 + 1 + a_y_Q_P_L + 1 + a_y_Q_Out + 1 + 1, k1 + 1 + 1 + 1 + a_y_R + 1 + 1 + 1 + 1 + 1 + 1 + 1 + 1 + a_y_Q_P_L + 1 + a_y_Q_Out + 1 + 1 + a_y_L, k1 + 1 + 1 + 1 + a_y_R + 1 + 1 + 1 + 1 + 1 + 1 + 1 + 1 + a_y_Q_P_L + 1 + a_y_Q_Out + 1 + 1 + a_y_L + 1, k1 + 1 + 1 + 1 + a_y_R + 1 + 1 + 1 + 1 + 1 + 1 + 1 + 1 + a_y_Q_P_L + 1 + a_y_Q_Out + 1 + 1 + a_y_L + 1 + 1, k1 + 1 + 1 + 1 + a_y_R + 1 + 1 + 1 + 1 + 1 + 1 + 1 + 1 + a_y_Q_P_L + 1 + a_y_Q_Out + 1 + 1 + a_y_L + 1 + 1 + 1, k1 + 1 + 1 + 1 + a_y_R + 1 + 1 + 1 + 1 + 1 + 1 + 1 + 1 + a_y_Q_P_L + 1 + a_y_Q_Out + 1 + 1 + a_y_L + 1 + 1 + 1 + 1, k1 + 1 + 1 + 1 + a_y_R + 1 + 1 + 1 + 1 + 1 + 1 + 1 + 1 + a_y_Q_P_L + 1 + a_y_Q_Out + 1 + 1 + a_y_L + 1 + 1 + 1 + 1 + 1, k1 + 1 + 1 + 1 + a_y_R + 1 + 1 + 1 + 1 + 1 + 1 + 1 + 1 + a_y_Q_P_L + 1 + a_y_Q_Out + 1 + 1 + a_y_L + 1 + 1 + 1 + 1 + 1 + 1, k1 + 1 + 1 + 1 + a_y_R + 1 + 1 + 1 + 1 + 1 + 1 + 1 + 1 + a_y_Q_P_L + 1 + a_y_Q_Out + 1 + 1 + a_y_L + 1 + 1 + 1 + 1 + 1 + 1 + a_y_Got, rfl, wrap_i64 (by omega) (by omega), rfl, wrap_i64 (by omega) (by omega), rfl, wrap_i64 (by omega) (by omega), rfl, by omega, by omega, by omega, rfl, wrap_i64 (by omega) (by omega), rfl, wrap_i64 (by omega) (by omega), rfl, wrap_i64 (by omega) (by omega), rfl, wrap_i64 (by omega) (by omega), rfl, wrap_i64 (by omega) (by omega), rfl, wrap_i64 (by omega) (by omega), rfl, wrap_i64 (by omega) (by omega), rfl, wrap_i64 (by omega) (by omega), by omega, rfl, by omega, by omega, by omega, rfl, wrap_i64 (by omega) (by omega), rfl, by omega, by omega, by omega, rfl, wrap_i64 (by omega) (by omega), rfl, wrap_i64 (by omega) (by omega), rfl, by omega, by omega, by omega, rfl, wrap_i64 (by omega) (by omega), rfl, wrap_i64 (by omega) (by omega), rfl, wrap_i64 (by omega) (by omega), rfl, wrap_i64 (by omega) (by omega), rfl, wrap_i64 (by omega) (by omega), rfl, wrap_i64 (by omega) (by omega), rfl, by omega, by omega, by omega, by omega, by omega⟩

def ctDeed : XDeed → Int
  | ⟨y_Op, y_Task, y_R, y_Id, ⟨y_Q_Kind, ⟨y_Q_P_Kind, y_Q_P_Col, y_Q_P_Op, ⟨y_Q_P_V_Ty, y_Q_P_V_N, y_Q_P_V_S⟩, y_Q_P_L⟩, y_Q_Col, y_Q_Out⟩, ⟨y_Res_Rows, y_Res_N, y_Res_Has, ⟨y_Res_V_Ty, y_Res_V_N, y_Res_V_S⟩⟩, y_Code, y_Stamp, y_Inv, y_Lin, y_Ret⟩ => 1 + 1 + ctVals y_R + 1 + 1 + 1 + 1 + 1 + 1 + 1 + 1 + ctPreds y_Q_P_L + 1 + ctInts y_Q_Out + ctRows y_Res_Rows + 1 + 1 + 1 + 1 + 1 + 1 + 1 + 1 + 1 + 1

def ctDeeds : List XDeed → Int
  | [] => 0
  | x :: l => ctDeed x + ctDeeds l

def mkDeed : Int → XDeed → XDeed
  | k, ⟨y_Op, y_Task, y_R, y_Id, ⟨y_Q_Kind, ⟨y_Q_P_Kind, y_Q_P_Col, y_Q_P_Op, ⟨y_Q_P_V_Ty, y_Q_P_V_N, y_Q_P_V_S⟩, y_Q_P_L⟩, y_Q_Col, y_Q_Out⟩, ⟨y_Res_Rows, y_Res_N, y_Res_Has, ⟨y_Res_V_Ty, y_Res_V_N, y_Res_V_S⟩⟩, y_Code, y_Stamp, y_Inv, y_Lin, y_Ret⟩ => ⟨k, k + 1, mkVals (k + 1 + 1) y_R, k + 1 + 1 + ctVals y_R, ⟨k + 1 + 1 + ctVals y_R + 1, ⟨k + 1 + 1 + ctVals y_R + 1 + 1, k + 1 + 1 + ctVals y_R + 1 + 1 + 1, k + 1 + 1 + ctVals y_R + 1 + 1 + 1 + 1, ⟨k + 1 + 1 + ctVals y_R + 1 + 1 + 1 + 1 + 1, k + 1 + 1 + ctVals y_R + 1 + 1 + 1 + 1 + 1 + 1, mtext (k + 1 + 1 + ctVals y_R + 1 + 1 + 1 + 1 + 1 + 1 + 1)⟩, mkPreds (k + 1 + 1 + ctVals y_R + 1 + 1 + 1 + 1 + 1 + 1 + 1 + 1) y_Q_P_L⟩, k + 1 + 1 + ctVals y_R + 1 + 1 + 1 + 1 + 1 + 1 + 1 + 1 + ctPreds y_Q_P_L, mkInts (k + 1 + 1 + ctVals y_R + 1 + 1 + 1 + 1 + 1 + 1 + 1 + 1 + ctPreds y_Q_P_L + 1) y_Q_Out⟩, ⟨mkRows (k + 1 + 1 + ctVals y_R + 1 + 1 + 1 + 1 + 1 + 1 + 1 + 1 + ctPreds y_Q_P_L + 1 + ctInts y_Q_Out) y_Res_Rows, k + 1 + 1 + ctVals y_R + 1 + 1 + 1 + 1 + 1 + 1 + 1 + 1 + ctPreds y_Q_P_L + 1 + ctInts y_Q_Out + ctRows y_Res_Rows, ((k + 1 + 1 + ctVals y_R + 1 + 1 + 1 + 1 + 1 + 1 + 1 + 1 + ctPreds y_Q_P_L + 1 + ctInts y_Q_Out + ctRows y_Res_Rows + 1).tmod 3 == 0), ⟨k + 1 + 1 + ctVals y_R + 1 + 1 + 1 + 1 + 1 + 1 + 1 + 1 + ctPreds y_Q_P_L + 1 + ctInts y_Q_Out + ctRows y_Res_Rows + 1 + 1, k + 1 + 1 + ctVals y_R + 1 + 1 + 1 + 1 + 1 + 1 + 1 + 1 + ctPreds y_Q_P_L + 1 + ctInts y_Q_Out + ctRows y_Res_Rows + 1 + 1 + 1, mtext (k + 1 + 1 + ctVals y_R + 1 + 1 + 1 + 1 + 1 + 1 + 1 + 1 + ctPreds y_Q_P_L + 1 + ctInts y_Q_Out + ctRows y_Res_Rows + 1 + 1 + 1 + 1)⟩⟩, k + 1 + 1 + ctVals y_R + 1 + 1 + 1 + 1 + 1 + 1 + 1 + 1 + ctPreds y_Q_P_L + 1 + ctInts y_Q_Out + ctRows y_Res_Rows + 1 + 1 + 1 + 1 + 1, k + 1 + 1 + ctVals y_R + 1 + 1 + 1 + 1 + 1 + 1 + 1 + 1 + ctPreds y_Q_P_L + 1 + ctInts y_Q_Out + ctRows y_Res_Rows + 1 + 1 + 1 + 1 + 1 + 1, k + 1 + 1 + ctVals y_R + 1 + 1 + 1 + 1 + 1 + 1 + 1 + 1 + ctPreds y_Q_P_L + 1 + ctInts y_Q_Out + ctRows y_Res_Rows + 1 + 1 + 1 + 1 + 1 + 1 + 1, k + 1 + 1 + ctVals y_R + 1 + 1 + 1 + 1 + 1 + 1 + 1 + 1 + ctPreds y_Q_P_L + 1 + ctInts y_Q_Out + ctRows y_Res_Rows + 1 + 1 + 1 + 1 + 1 + 1 + 1 + 1, k + 1 + 1 + ctVals y_R + 1 + 1 + 1 + 1 + 1 + 1 + 1 + 1 + ctPreds y_Q_P_L + 1 + ctInts y_Q_Out + ctRows y_Res_Rows + 1 + 1 + 1 + 1 + 1 + 1 + 1 + 1 + 1⟩

def mkDeeds : Int → List XDeed → List XDeed
  | _, [] => []
  | k, x :: l => mkDeed k x :: mkDeeds (k + ctDeed x) l

theorem ctDeed_pos : ∀ x : XDeed, 1 ≤ ctDeed x
  | ⟨y_Op, y_Task, y_R, y_Id, ⟨y_Q_Kind, ⟨y_Q_P_Kind, y_Q_P_Col, y_Q_P_Op, ⟨y_Q_P_V_Ty, y_Q_P_V_N, y_Q_P_V_S⟩, y_Q_P_L⟩, y_Q_Col, y_Q_Out⟩, ⟨y_Res_Rows, y_Res_N, y_Res_Has, ⟨y_Res_V_Ty, y_Res_V_N, y_Res_V_S⟩⟩, y_Code, y_Stamp, y_Inv, y_Lin, y_Ret⟩ => by have h_y_R := ctVals_nn y_R; have h_y_Q_P_L := ctPreds_nn y_Q_P_L; have h_y_Q_Out := ctInts_nn y_Q_Out; have h_y_Res_Rows := ctRows_nn y_Res_Rows; simp only [ctDeed]; omega

theorem ctDeeds_len : ∀ l : List XDeed, (l.length : Int) ≤ ctDeeds l
  | [] => by simp [ctDeeds]
  | x :: l => by have h1 := ctDeed_pos x; have h2 := ctDeeds_len l; simp only [ctDeeds, List.length_cons]; omega

theorem ctDeeds_nn (l : List XDeed) : 0 ≤ ctDeeds l := by have := ctDeeds_len l; omega

@[simp] theorem mkDeeds_len : ∀ (k : Int) (l : List XDeed), (mkDeeds k l).length = l.length
  | _, [] => by simp [mkDeeds]
  | k, x :: l => by simp [mkDeeds, mkDeeds_len]

theorem chainDeed (k1 a_y_R a_y_Q_P_L a_y_Q_Out a_y_Res_Rows : Int) (h0 : 0 ≤ k1) (h_y_R : 0 ≤ a_y_R) (h_y_Q_P_L : 0 ≤ a_y_Q_P_L) (h_y_Q_Out : 0 ≤ a_y_Q_Out) (h_y_Res_Rows : 0 ≤ a_y_Res_Rows) (hB : k1 + (1 + 1 + a_y_R + 1 + 1 + 1 + 1 + 1 + 1 + 1 + 1 + a_y_Q_P_L + 1 + a_y_Q_Out + a_y_Res_Rows + 1 + 1 + 1 + 1 + 1 + 1 + 1 + 1 + 1 + 1) ≤ 4611686018427387904) :
    ∃ w1 w2 w3 w4 w5 w6 w7 w8 w9 w10 w11 w12 w13 w14 w15 w16 w17 w18 w19 w20 w21 w22 w23 w24 w25 : Int, w1 = k1 + 1 ∧ IntKind.wrap .i64 (k1 + 1) = w1 ∧ w2 = w1 + 1 ∧ IntKind.wrap .i64 (w1 + 1) = w2 ∧ w3 = w2 + a_y_R ∧ 0 ≤ w2 ∧ w3 ≤ 4611686018427387904 ∧ ¬ w3 < 0 ∧ w4 = w3 + 1 ∧ IntKind.wrap .i64 (w3 + 1) = w4 ∧ w5 = w4 + 1 ∧ IntKind.wrap .i64 (w4 + 1) = w5 ∧ w6 = w5 + 1 ∧ IntKind.wrap .i64 (w5 + 1) = w6 ∧ w7 = w6 + 1 ∧ IntKind.wrap .i64 (w6 + 1) = w7 ∧ w8 = w7 + 1 ∧ IntKind.wrap .i64 (w7 + 1) = w8 ∧ w9 = w8 + 1 ∧ IntKind.wrap .i64 (w8 + 1) = w9 ∧ w10 = w9 + 1 ∧ IntKind.wrap .i64 (w9 + 1) = w10 ∧ w11 = w10 + 1 ∧ IntKind.wrap .i64 (w10 + 1) = w11 ∧ w10 ≤ 4611686018427387904 ∧ w12 = w11 + a_y_Q_P_L ∧ 0 ≤ w11 ∧ w12 ≤ 4611686018427387904 ∧ ¬ w12 < 0 ∧ w13 = w12 + 1 ∧ IntKind.wrap .i64 (w12 + 1) = w13 ∧ w14 = w13 + a_y_Q_Out ∧ 0 ≤ w13 ∧ w14 ≤ 4611686018427387904 ∧ ¬ w14 < 0 ∧ w15 = w14 + a_y_Res_Rows ∧ 0 ≤ w14 ∧ w15 ≤ 4611686018427387904 ∧ ¬ w15 < 0 ∧ w16 = w15 + 1 ∧ IntKind.wrap .i64 (w15 + 1) = w16 ∧ w17 = w16 + 1 ∧ IntKind.wrap .i64 (w16 + 1) = w17 ∧ w18 = w17 + 1 ∧ IntKind.wrap .i64 (w17 + 1) = w18 ∧ w19 = w18 + 1 ∧ IntKind.wrap .i64 (w18 + 1) = w19 ∧ w20 = w19 + 1 ∧ IntKind.wrap .i64 (w19 + 1) = w20 ∧ w19 ≤ 4611686018427387904 ∧ w21 = w20 + 1 ∧ IntKind.wrap .i64 (w20 + 1) = w21 ∧ w22 = w21 + 1 ∧ IntKind.wrap .i64 (w21 + 1) = w22 ∧ w23 = w22 + 1 ∧ IntKind.wrap .i64 (w22 + 1) = w23 ∧ w24 = w23 + 1 ∧ IntKind.wrap .i64 (w23 + 1) = w24 ∧ w25 = w24 + 1 ∧ IntKind.wrap .i64 (w24 + 1) = w25 ∧ k1 + (1 + 1 + a_y_R + 1 + 1 + 1 + 1 + 1 + 1 + 1 + 1 + a_y_Q_P_L + 1 + a_y_Q_Out + a_y_Res_Rows + 1 + 1 + 1 + 1 + 1 + 1 + 1 + 1 + 1 + 1) = w25 ∧ 0 ≤ w25 :=
  ⟨k1 + 1, k1 + 1 + 1, k1 + 1 + 1 + a_y_R, k1 + 1 + 1 + a_y_R + 1, k1 + 1 + 1 + a_y_R + 1 + 1, k1 + 1 + 1 + a_y_R + 1 + 1 + 1, k1 + 1 + 1 + a_y_R + 1 + 1 + 1 + 1, k1 + 1 + 1 + a_y_R + 1 + 1 + 1 + 1 + 1, k1 + 1 + 1 + a_y_R + 1 + 1 + 1 + 1 + 1 + 1, k1 + 1 + 1 + a_y_R + 1 + 1 + 1 + 1 + 1 + 1 + 1, k1 + 1 + 1 + a_y_R + 1 + 1 + 1 + 1 + 1 + 1 + 1 + 1, k1 + 1 + 1 + a_y_R + 1 + 1 + 1 + 1 + 1 + 1 + 1 + 1 + a_y_Q_P_L, k1 + 1 + 1 + a_y_R + 1 + 1 + 1 + 1 + 1 + 1 + 1 + 1 + a_y_Q_P_L + 1, k1 + 1 + 1 + a_y_R + 1 + 1 + 1 + 1 + 1 + 1 + 1 + 1 + a_y_Q_P_L + 1 + a_y_Q_Out, k1 + 1 + 1 + a_y_R + 1 + 1 + 1 + 1 + 1 + 1 + 1 + 1 + a_y_Q_P_L + 1 + a_y_Q_Out + a_y_Res_Rows, k1 + 1 + 1 + a_y_R + 1 + 1 + 1 + 1 + 1 + 1 + 1 + 1 + a_y_Q_P_L + 1 + a_y_Q_Out + a_y_Res_Rows + 1, k1 + 1 + 1 + a_y_R + 1 + 1 + 1 + 1 + 1 + 1 + 1 + 1 + a_y_Q_P_L + 1 + a_y_Q_Out + a_y_Res_Rows + 1 + 1, k1 + 1 + 1 + a_y_R + 1 + 1 + 1 + 1 + 1 + 1 + 1 + 1 + a_y_Q_P_L + 1 + a_y_Q_Out + a_y_Res_Rows + 1 + 1 + 1, k1 + 1 + 1 + a_y_R + 1 + 1 + 1 + 1 + 1 + 1 + 1 + 1 + a_y_Q_P_L + 1 + a_y_Q_Out + a_y_Res_Rows + 1 + 1 + 1 + 1, k1 + 1 + 1 + a_y_R + 1 + 1 + 1 + 1 + 1 + 1 + 1 + 1 + a_y_Q_P_L + 1 + a_y_Q_Out + a_y_Res_Rows + 1 + 1 + 1 + 1 + 1, k1 + 1 + 1 + a_y_R + 1 + 1 + 1 + 1 + 1 + 1 + 1 + 1 + a_y_Q_P_L + 1 + a_y_Q_Out + a_y_Res_Rows + 1 + 1 + 1 + 1 + 1 + 1, k1 + 1 + 1 + a_y_R + 1 + 1 + 1 + 1 + 1 + 1 + 1 + 1 + a_y_Q_P_L + 1 + a_y_Q_Out + a_y_Res_Rows + 1 + 1 + 1 + 1 + 1 + 1 + 1, k1 + 1 + 1 + a_y_R + 1 + 1 + 1 + 1 + 1 + 1 + 1 + 1 + a_y_Q_P_L + 1 + a_y_Q_Out + a_y_Res_Rows + 1 + 1 + 1 + 1 + 1 + 1 + 1 + 1, k1 + 1 + 1 + a_y_R + 1 + 1 + 1 + 1 + 1 + 1 + 1 + 1 + a_y_Q_P_L + 1 + a_y_Q_Out + a_y_Res_Rows + 1 + 1 + 1 + 1 + 1 + 1 + 1 + 1 + 1, k1 + 1 + 1 + a_y_R + 1 + 1 + 1 + 1 + 1 + 1 + 1 + 1 + a_y_Q_P_L + 1 + a_y_Q_Out + a_y_Res_Rows + 1 + 1 + 1 + 1 + 1 + 1 + 1 + 1 + 1 + 1, rfl, wrap_i64 (by omega) (by omega), rfl, wrap_i64 (by omega) (by omega), rfl, by omega, by omega, by omega, rfl, wrap_i64 (by omega) (by omega), rfl, wrap_i64 (by omega) (by omega), rfl, wrap_i64 (by omega) (by omega), rfl, wrap_i64 (by omega) (by omega), rfl, wrap_i64 (by omega) (by omega), rfl, wrap_i64 (by omega) (by omega), rfl, wrap_i64 (by omega) (by omega), rfl, wrap_i64 (by omega) (by omega), by omega, rfl, by omega, by omega, by omega, rfl, wrap_i64 (by omega) (by omega), rfl, by omega, by omega, by omega, rfl, by omega, by omega, by omega, rfl, wrap_i64 (by omega) (by omega), rfl, wrap_i64 (by omega) (by omega), rfl, wrap_i64 (by omega) (by omega), rfl, wrap_i64 (by omega) (by omega), rfl, wrap_i64 (by omega) (by omega), by omega, rfl, wrap_i64 (by omega) (by omega), rfl, wrap_i64 (by omega) (by omega), rfl, wrap_i64 (by omega) (by omega), rfl, wrap_i64 (by omega) (by omega), rfl, wrap_i64 (by omega) (by omega), by omega, by omega⟩

def MarkPreds (l : List XPred) : Prop := ∀ (k : Int), 0 ≤ k → k + ctPreds l ≤ 4611686018427387904 → Gw TT 191 [.one (.own (.sl 7 (l.map XPred.e))), vi k] = some (vi (k + ctPreds l), [(0, 0, .own (.sl 7 ((mkPreds k l).map XPred.e)))])

theorem MarkPreds_of (l : List XPred) (IH : ∀ y ∈ l, MarkPreds y.L) : MarkPreds l := by
  intro k h0 hc
  refine Gw_of (F := pf191) rfl rfl ?_
  show Wp _ pb191 _ _
  unfold pb191
  generalize hM : mkPreds k l = M
  have hlen := ctPreds_len l
  repeat' first|with_reducible (first|apply Z1|apply Z2|apply Z3|apply Z4|apply Z5|apply Z6|apply Z7|apply Z8|apply Z9|apply Y1|apply Y2|apply Y3|apply Y4|apply Y5|apply Y6|apply Y7|apply Y8|apply Y9)|(with_reducible refine Xk fun K k=>?_;simp;refine k _ ?_;clear k K)|refine Xt rfl ?_|refine Xf rfl ?_
  · refine wp_loopI (σ := List XPred × List XPred × Int) (fun s => [(0, AV.pl 0 0 [], some (Rt.vir [C.own (D.sl 7 (s.1.map XPred.e ++ s.2.1.map XPred.e))])), (1, AV.v false (di s.2.2), none), (5, AV.v false (di ((s.1.length : Nat) : Int)), none)]) (fun s => (∃ q, l = q ++ s.2.1) ∧ M = s.1 ++ mkPreds s.2.2 s.2.1 ∧ s.2.2 + ctPreds s.2.1 = k + ctPreds l ∧ s.1.length + s.2.1.length = l.length ∧ 0 ≤ s.2.2) (fun s => s.2.1.length) ([], l, k) (by simp) ⟨⟨[], rfl⟩, hM.symm, rfl, by simp, h0⟩ ?_
    rintro ⟨pre, rest, k1⟩ ⟨⟨q, hM2⟩, h1, h2, h3, h4⟩
    simp only at hM2 h1 h2 h3 h4
    rcases rest with _ | ⟨⟨y_Kind, y_Col, y_Op, ⟨y_V_Ty, y_V_N, y_V_S⟩, y_L⟩, rest⟩
    · unfold pl191_0
      simp only [mkPreds, ctPreds, List.append_nil, Int.add_zero] at h1 h2
      subst h1
      repeat' first|with_reducible (first|apply Z1|apply Z2|apply Z3|apply Z4|apply Z5|apply Z6|apply Z7|apply Z8|apply Z9|apply Y1|apply Y2|apply Y3|apply Y4|apply Y5|apply Y6|apply Y7|apply Y8|apply Y9)|(with_reducible refine Xk fun K k=>?_;simp;refine k _ ?_;clear k K)|refine Xt rfl ?_|refine Xf rfl ?_
      all_goals simp [pf191, h2]
    · unfold pl191_0
      simp only [mkPreds, ctPreds, mkPred, ctPred, List.length_cons] at h1 h2 h3
      have hnr := ctPreds_nn rest
      have hw : IntKind.wrap .i64 ((pre.length : Int) + 1) = (pre.length : Int) + 1 := wrap_i64 (by omega) (by omega)
      have hlt : (pre.length : Int) < (pre.length : Int) + ((rest.length : Int) + 1) := by omega
      have hl2 : (pre ++ [mkPred k1 ⟨y_Kind, y_Col, y_Op, ⟨y_V_Ty, y_V_N, y_V_S⟩, y_L⟩]).length + rest.length = l.length := by simp only [List.length_append, List.length_cons, List.length_nil]; omega
      have hB2 : k1 + (1 + 1 + 1 + 1 + 1 + 1 + ctPreds y_L) + ctPreds rest = k + ctPreds l := by omega
      obtain ⟨w1, w2, w3, w4, w5, w6, w7, hv0, hw0, hv1, hw1, hv2, hw2, hv3, hw3, hv4, hw4, hv5, hw5, ht5, hv6, hz6, hy6, hg6, hE, hZ⟩ := chainPred k1 (ctPreds y_L) h4 (ctPreds_nn y_L) (by omega)
      rw [hE] at h1 hB2
      try simp only [← hv0, ← hv1, ← hv2, ← hv3, ← hv4, ← hv5, ← hv6] at h1
      have ih := IH ⟨y_Kind, y_Col, y_Op, ⟨y_V_Ty, y_V_N, y_V_S⟩, y_L⟩ (by simp [hM2]) w6 hz6 (by simp only; rw [← hv6]; exact hy6)
      simp only [← hv6] at ih
      subst h1
      repeat' (first
        | with_reducible (first | refine wp_seq ?_ | refine wp_blk ?_ | refine wp_skip ?_ | refine wp_exit ?_ | refine wp_ret ?_ | refine seqQ_norm ?_ | refine seqQ_ret ?_ | refine seqQ_exit ?_ | refine blkQ_norm ?_ | refine blkQ_ret ?_ | refine blkQ_exit ?_ | refine loopQ_norm ?_ | refine loopQ_exit ?_ | refine loopQ_ret ?_ | refine endQ_ret ?_ | refine endQ_norm ?_ | refine endE_ret ?_ | refine endE_norm ?_ | refine endI_ret ?_ | refine endI_norm ?_)
        | (with_reducible refine wp_regK fun K hK => ?_
           simp[hw0, hw1, hw2, hw3, hw4, hw5, ht5, hz6, hy6, hg6, ← hv6, hw, hlt, ih]
           repeat' (with_reducible first | refine hK _ ?_ | (refine psel ?_ ?_ <;> (intro hc; (try rw [Decidable.not_not] at hc); first | (try simp [hc, hw0, hw1, hw2, hw3, hw4, hw5, ht5, hz6, hy6, hg6, ← hv6, hw, hlt, ih]))))
           all_goals (clear hK; clear K))
        | (with_reducible refine wp_condE ?_
           refine ⟨_, rfl, ?_, ?_⟩ <;> (intro hc; (try simp at hc); skip)))
      all_goals first | exact ⟨(pre ++ [mkPred k1 ⟨y_Kind, y_Col, y_Op, ⟨y_V_Ty, y_V_N, y_V_S⟩, y_L⟩], rest, w7), by simp [mkPred, hv0, hv1, hv2, hv3, hv4, hv5, hv6], ⟨⟨q ++ [⟨y_Kind, y_Col, y_Op, ⟨y_V_Ty, y_V_N, y_V_S⟩, y_L⟩], by simp [hM2]⟩, by simp [mkPred, hv0, hv1, hv2, hv3, hv4, hv5, hv6], hB2, hl2, hZ⟩, by simp⟩ | (exfalso; simp_all; done)

theorem MarkPreds_all (l : List XPred) : MarkPreds l :=
  MarkPreds_of l fun y hy => MarkPreds_all y.L
termination_by SizeOf.sizeOf l
decreasing_by
  have h1 := List.sizeOf_lt_of_mem hy
  have h2 : SizeOf.sizeOf y.L < SizeOf.sizeOf y := by cases y; simp; omega
  omega

@[simp] theorem t191 (l : List XPred) (k : Int) (h0 : 0 ≤ k) (hc : k + ctPreds l ≤ 4611686018427387904) : Gw TT 191 [.one (.own (.sl 7 (l.map XPred.e))), vi k] = some (vi (k + ctPreds l), [(0, 0, .own (.sl 7 ((mkPreds k l).map XPred.e)))]) := MarkPreds_all l k h0 hc

def HeldPreds (l : List XPred) : Prop := ∀ (k0 : Bool) (k : Int), 0 ≤ k → k + ctPreds l ≤ 4611686018427387904 → Gw TT 176 [.one (.ro k0 (.sl 7 ((mkPreds k l).map XPred.e))), vi k] = some (vi (k + ctPreds l), [])

theorem HeldPreds_of (l : List XPred) (IH : ∀ y ∈ l, HeldPreds y.L) : HeldPreds l := by
  intro k0 k h0 hc
  refine Gw_of (F := pf176) rfl rfl ?_
  show Wp _ pb176 _ _
  unfold pb176
  generalize hM : mkPreds k l = M
  have hlen := ctPreds_len l
  repeat' first|with_reducible (first|apply Z1|apply Z2|apply Z3|apply Z4|apply Z5|apply Z6|apply Z7|apply Z8|apply Z9|apply Y1|apply Y2|apply Y3|apply Y4|apply Y5|apply Y6|apply Y7|apply Y8|apply Y9)|(with_reducible refine Xk fun K k=>?_;simp;refine k _ ?_;clear k K)|refine Xt rfl ?_|refine Xf rfl ?_
  · refine wp_loopI (σ := List XPred × List XPred × Int) (fun s => [(0, AV.v k0 (D.sl 7 (M.map XPred.e)), none), (1, AV.v false (di s.2.2), none), (5, AV.v false (di ((s.1.length : Nat) : Int)), none)]) (fun s => (∃ q, l = q ++ s.2.1) ∧ M = s.1 ++ mkPreds s.2.2 s.2.1 ∧ s.2.2 + ctPreds s.2.1 = k + ctPreds l ∧ s.1.length + s.2.1.length = l.length ∧ 0 ≤ s.2.2) (fun s => s.2.1.length) ([], l, k) (by simp [hM]) ⟨⟨[], rfl⟩, hM.symm, rfl, by simp, h0⟩ ?_
    rintro ⟨pre, rest, k1⟩ ⟨⟨q, hM2⟩, h1, h2, h3, h4⟩
    simp only at hM2 h1 h2 h3 h4
    rcases rest with _ | ⟨⟨y_Kind, y_Col, y_Op, ⟨y_V_Ty, y_V_N, y_V_S⟩, y_L⟩, rest⟩
    · unfold pl176_0
      simp only [mkPreds, ctPreds, List.append_nil, Int.add_zero] at h1 h2
      subst h1
      repeat' first|with_reducible (first|apply Z1|apply Z2|apply Z3|apply Z4|apply Z5|apply Z6|apply Z7|apply Z8|apply Z9|apply Y1|apply Y2|apply Y3|apply Y4|apply Y5|apply Y6|apply Y7|apply Y8|apply Y9)|(with_reducible refine Xk fun K k=>?_;simp;refine k _ ?_;clear k K)|refine Xt rfl ?_|refine Xf rfl ?_
      all_goals simp [pf176, h2]
    · unfold pl176_0
      simp only [mkPreds, ctPreds, mkPred, ctPred, List.length_cons] at h1 h2 h3
      have hnr := ctPreds_nn rest
      have hw : IntKind.wrap .i64 ((pre.length : Int) + 1) = (pre.length : Int) + 1 := wrap_i64 (by omega) (by omega)
      have hlt : (pre.length : Int) < (pre.length : Int) + ((rest.length : Int) + 1) := by omega
      have hl2 : (pre ++ [mkPred k1 ⟨y_Kind, y_Col, y_Op, ⟨y_V_Ty, y_V_N, y_V_S⟩, y_L⟩]).length + rest.length = l.length := by simp only [List.length_append, List.length_cons, List.length_nil]; omega
      have hB2 : k1 + (1 + 1 + 1 + 1 + 1 + 1 + ctPreds y_L) + ctPreds rest = k + ctPreds l := by omega
      obtain ⟨w1, w2, w3, w4, w5, w6, w7, hv0, hw0, hv1, hw1, hv2, hw2, hv3, hw3, hv4, hw4, hv5, hw5, ht5, hv6, hz6, hy6, hg6, hE, hZ⟩ := chainPred k1 (ctPreds y_L) h4 (ctPreds_nn y_L) (by omega)
      rw [hE] at h1 hB2
      try simp only [← hv0, ← hv1, ← hv2, ← hv3, ← hv4, ← hv5, ← hv6] at h1
      have ih := IH ⟨y_Kind, y_Col, y_Op, ⟨y_V_Ty, y_V_N, y_V_S⟩, y_L⟩ (by simp [hM2]) k0 w6 hz6 (by simp only; rw [← hv6]; exact hy6)
      simp only [← hv6] at ih
      subst h1
      repeat' (first
        | with_reducible (first | refine wp_seq ?_ | refine wp_blk ?_ | refine wp_skip ?_ | refine wp_exit ?_ | refine wp_ret ?_ | refine seqQ_norm ?_ | refine seqQ_ret ?_ | refine seqQ_exit ?_ | refine blkQ_norm ?_ | refine blkQ_ret ?_ | refine blkQ_exit ?_ | refine loopQ_norm ?_ | refine loopQ_exit ?_ | refine loopQ_ret ?_ | refine endQ_ret ?_ | refine endQ_norm ?_ | refine endE_ret ?_ | refine endE_norm ?_ | refine endI_ret ?_ | refine endI_norm ?_)
        | (with_reducible refine wp_regK fun K hK => ?_
           simp[hw0, hw1, hw2, hw3, hw4, hw5, ht5, hz6, hy6, hg6, ← hv6, hw, hlt, ih]
           repeat' (with_reducible first | refine hK _ ?_ | (refine psel ?_ ?_ <;> (intro hc; (try rw [Decidable.not_not] at hc); first | (try simp [hc, hw0, hw1, hw2, hw3, hw4, hw5, ht5, hz6, hy6, hg6, ← hv6, hw, hlt, ih]))))
           all_goals (clear hK; clear K))
        | (with_reducible refine wp_condE ?_
           refine ⟨_, rfl, ?_, ?_⟩ <;> (intro hc; (try simp at hc); skip)))
      all_goals first | exact ⟨(pre ++ [mkPred k1 ⟨y_Kind, y_Col, y_Op, ⟨y_V_Ty, y_V_N, y_V_S⟩, y_L⟩], rest, w7), by simp [mkPred, hv0, hv1, hv2, hv3, hv4, hv5, hv6], ⟨⟨q ++ [⟨y_Kind, y_Col, y_Op, ⟨y_V_Ty, y_V_N, y_V_S⟩, y_L⟩], by simp [hM2]⟩, by simp [mkPred, hv0, hv1, hv2, hv3, hv4, hv5, hv6], hB2, hl2, hZ⟩, by simp⟩ | (exfalso; simp_all; done)

theorem HeldPreds_all (l : List XPred) : HeldPreds l :=
  HeldPreds_of l fun y hy => HeldPreds_all y.L
termination_by SizeOf.sizeOf l
decreasing_by
  have h1 := List.sizeOf_lt_of_mem hy
  have h2 : SizeOf.sizeOf y.L < SizeOf.sizeOf y := by cases y; simp; omega
  omega

@[simp] theorem t176 (k0 : Bool) (l : List XPred) (k : Int) (h0 : 0 ≤ k) (hc : k + ctPreds l ≤ 4611686018427387904) : Gw TT 176 [.one (.ro k0 (.sl 7 ((mkPreds k l).map XPred.e))), vi k] = some (vi (k + ctPreds l), []) := HeldPreds_all l k0 k h0 hc

@[simp] theorem t195 (l : List XTask) (k : Int) (h0 : 0 ≤ k) (hc : k + ctTasks l ≤ 4611686018427387904) : Gw TT 195 [.one (.own (.sl 25 (l.map XTask.e))), vi k] = some (vi (k + ctTasks l), [(0, 0, .own (.sl 25 ((mkTasks k l).map XTask.e)))]) := by
  refine Gw_of (F := pf195) rfl rfl ?_
  show Wp _ pb195 _ _
  unfold pb195
  generalize hM : mkTasks k l = M
  have hlen := ctTasks_len l
  repeat' first|with_reducible (first|apply Z1|apply Z2|apply Z3|apply Z4|apply Z5|apply Z6|apply Z7|apply Z8|apply Z9|apply Y1|apply Y2|apply Y3|apply Y4|apply Y5|apply Y6|apply Y7|apply Y8|apply Y9)|(with_reducible refine Xk fun K k=>?_;simp;refine k _ ?_;clear k K)|refine Xt rfl ?_|refine Xf rfl ?_
  · refine wp_loopI (σ := List XTask × List XTask × Int) (fun s => [(0, AV.pl 0 0 [], some (Rt.vir [C.own (D.sl 25 (s.1.map XTask.e ++ s.2.1.map XTask.e))])), (1, AV.v false (di s.2.2), none), (5, AV.v false (di ((s.1.length : Nat) : Int)), none)]) (fun s => M = s.1 ++ mkTasks s.2.2 s.2.1 ∧ s.2.2 + ctTasks s.2.1 = k + ctTasks l ∧ s.1.length + s.2.1.length = l.length ∧ 0 ≤ s.2.2) (fun s => s.2.1.length) ([], l, k) (by simp) ⟨hM.symm, rfl, by simp, h0⟩ ?_
    rintro ⟨pre, rest, k1⟩ ⟨h1, h2, h3, h4⟩
    simp only at h1 h2 h3 h4
    rcases rest with _ | ⟨⟨y_Op, y_Pc, y_H, y_R, y_Id, ⟨y_Q_Kind, ⟨y_Q_P_Kind, y_Q_P_Col, y_Q_P_Op, ⟨y_Q_P_V_Ty, y_Q_P_V_N, y_Q_P_V_S⟩, y_Q_P_L⟩, y_Q_Col, y_Q_Out⟩, y_Ts, y_Ver, y_L, y_I, y_J, y_S, y_At, y_Own, y_Won, y_Got⟩, rest⟩
    · unfold pl195_0
      simp only [mkTasks, ctTasks, List.append_nil, Int.add_zero] at h1 h2
      subst h1
      repeat' first|with_reducible (first|apply Z1|apply Z2|apply Z3|apply Z4|apply Z5|apply Z6|apply Z7|apply Z8|apply Z9|apply Y1|apply Y2|apply Y3|apply Y4|apply Y5|apply Y6|apply Y7|apply Y8|apply Y9)|(with_reducible refine Xk fun K k=>?_;simp;refine k _ ?_;clear k K)|refine Xt rfl ?_|refine Xf rfl ?_
      all_goals simp [pf195, h2]
    · unfold pl195_0
      simp only [mkTasks, ctTasks, mkTask, ctTask, List.length_cons] at h1 h2 h3
      have hnr := ctTasks_nn rest
      have hw : IntKind.wrap .i64 ((pre.length : Int) + 1) = (pre.length : Int) + 1 := wrap_i64 (by omega) (by omega)
      have hlt : (pre.length : Int) < (pre.length : Int) + ((rest.length : Int) + 1) := by omega
      have hl2 : (pre ++ [mkTask k1 ⟨y_Op, y_Pc, y_H, y_R, y_Id, ⟨y_Q_Kind, ⟨y_Q_P_Kind, y_Q_P_Col, y_Q_P_Op, ⟨y_Q_P_V_Ty, y_Q_P_V_N, y_Q_P_V_S⟩, y_Q_P_L⟩, y_Q_Col, y_Q_Out⟩, y_Ts, y_Ver, y_L, y_I, y_J, y_S, y_At, y_Own, y_Won, y_Got⟩]).length + rest.length = l.length := by simp only [List.length_append, List.length_cons, List.length_nil]; omega
      have hB2 : k1 + (1 + 1 + 1 + ctVals y_R + 1 + 1 + 1 + 1 + 1 + 1 + 1 + 1 + ctPreds y_Q_P_L + 1 + ctInts y_Q_Out + 1 + 1 + ctRefs y_L + 1 + 1 + 1 + 1 + 1 + 1 + ctRows y_Got) + ctTasks rest = k + ctTasks l := by omega
      obtain ⟨w1, w2, w3, w4, w5, w6, w7, w8, w9, w10, w11, w12, w13, w14, w15, w16, w17, w18, w19, w20, w21, w22, w23, w24, w25, hv0, hw0, hv1, hw1, hv2, hw2, hv3, hz3, hy3, hg3, hv4, hw4, hv5, hw5, hv6, hw6, hv7, hw7, hv8, hw8, hv9, hw9, hv10, hw10, hv11, hw11, ht11, hv12, hz12, hy12, hg12, hv13, hw13, hv14, hz14, hy14, hg14, hv15, hw15, hv16, hw16, hv17, hz17, hy17, hg17, hv18, hw18, hv19, hw19, hv20, hw20, hv21, hw21, hv22, hw22, hv23, hw23, hv24, hz24, hy24, hg24, hE, hZ⟩ := chainTask k1 (ctVals y_R) (ctPreds y_Q_P_L) (ctInts y_Q_Out) (ctRefs y_L) (ctRows y_Got) h4 (ctVals_nn y_R) (ctPreds_nn y_Q_P_L) (ctInts_nn y_Q_Out) (ctRefs_nn y_L) (ctRows_nn y_Got) (by omega)
      rw [hE] at h1 hB2
      try simp only [← hv0, ← hv1, ← hv2, ← hv3, ← hv4, ← hv5, ← hv6, ← hv7, ← hv8, ← hv9, ← hv10, ← hv11, ← hv12, ← hv13, ← hv14, ← hv15, ← hv16, ← hv17, ← hv18, ← hv19, ← hv20, ← hv21, ← hv22, ← hv23, ← hv24] at h1
      subst h1
      repeat' (first
        | with_reducible (first | refine wp_seq ?_ | refine wp_blk ?_ | refine wp_skip ?_ | refine wp_exit ?_ | refine wp_ret ?_ | refine seqQ_norm ?_ | refine seqQ_ret ?_ | refine seqQ_exit ?_ | refine blkQ_norm ?_ | refine blkQ_ret ?_ | refine blkQ_exit ?_ | refine loopQ_norm ?_ | refine loopQ_exit ?_ | refine loopQ_ret ?_ | refine endQ_ret ?_ | refine endQ_norm ?_ | refine endE_ret ?_ | refine endE_norm ?_ | refine endI_ret ?_ | refine endI_norm ?_)
        | (with_reducible refine wp_regK fun K hK => ?_
           simp[hw0, hw1, hw2, hz3, hy3, hg3, ← hv3, hw4, hw5, hw6, hw7, hw8, hw9, hw10, hw11, ht11, hz12, hy12, hg12, ← hv12, hw13, hz14, hy14, hg14, ← hv14, hw15, hw16, hz17, hy17, hg17, ← hv17, hw18, hw19, hw20, hw21, hw22, hw23, hz24, hy24, hg24, ← hv24, hw, hlt]
           repeat' (with_reducible first | refine hK _ ?_ | (refine psel ?_ ?_ <;> (intro hc; (try rw [Decidable.not_not] at hc); first | (try simp [hc, hw0, hw1, hw2, hz3, hy3, hg3, ← hv3, hw4, hw5, hw6, hw7, hw8, hw9, hw10, hw11, ht11, hz12, hy12, hg12, ← hv12, hw13, hz14, hy14, hg14, ← hv14, hw15, hw16, hz17, hy17, hg17, ← hv17, hw18, hw19, hw20, hw21, hw22, hw23, hz24, hy24, hg24, ← hv24, hw, hlt]))))
           all_goals (clear hK; clear K))
        | (with_reducible refine wp_condE ?_
           refine ⟨_, rfl, ?_, ?_⟩ <;> (intro hc; (try simp at hc); skip)))
      all_goals first | exact ⟨(pre ++ [mkTask k1 ⟨y_Op, y_Pc, y_H, y_R, y_Id, ⟨y_Q_Kind, ⟨y_Q_P_Kind, y_Q_P_Col, y_Q_P_Op, ⟨y_Q_P_V_Ty, y_Q_P_V_N, y_Q_P_V_S⟩, y_Q_P_L⟩, y_Q_Col, y_Q_Out⟩, y_Ts, y_Ver, y_L, y_I, y_J, y_S, y_At, y_Own, y_Won, y_Got⟩], rest, w25), by simp [mkTask, hv0, hv1, hv2, hv3, hv4, hv5, hv6, hv7, hv8, hv9, hv10, hv11, hv12, hv13, hv14, hv15, hv16, hv17, hv18, hv19, hv20, hv21, hv22, hv23, hv24], ⟨by simp [mkTask, hv0, hv1, hv2, hv3, hv4, hv5, hv6, hv7, hv8, hv9, hv10, hv11, hv12, hv13, hv14, hv15, hv16, hv17, hv18, hv19, hv20, hv21, hv22, hv23, hv24], hB2, hl2, hZ⟩, by simp⟩ | (exfalso; simp_all; done)

@[simp] theorem t180 (k0 : Bool) (l : List XTask) (k : Int) (h0 : 0 ≤ k) (hc : k + ctTasks l ≤ 4611686018427387904) : Gw TT 180 [.one (.ro k0 (.sl 25 ((mkTasks k l).map XTask.e))), vi k] = some (vi (k + ctTasks l), []) := by
  refine Gw_of (F := pf180) rfl rfl ?_
  show Wp _ pb180 _ _
  unfold pb180
  generalize hM : mkTasks k l = M
  have hlen := ctTasks_len l
  repeat' first|with_reducible (first|apply Z1|apply Z2|apply Z3|apply Z4|apply Z5|apply Z6|apply Z7|apply Z8|apply Z9|apply Y1|apply Y2|apply Y3|apply Y4|apply Y5|apply Y6|apply Y7|apply Y8|apply Y9)|(with_reducible refine Xk fun K k=>?_;simp;refine k _ ?_;clear k K)|refine Xt rfl ?_|refine Xf rfl ?_
  · refine wp_loopI (σ := List XTask × List XTask × Int) (fun s => [(0, AV.v k0 (D.sl 25 (M.map XTask.e)), none), (1, AV.v false (di s.2.2), none), (5, AV.v false (di ((s.1.length : Nat) : Int)), none)]) (fun s => M = s.1 ++ mkTasks s.2.2 s.2.1 ∧ s.2.2 + ctTasks s.2.1 = k + ctTasks l ∧ s.1.length + s.2.1.length = l.length ∧ 0 ≤ s.2.2) (fun s => s.2.1.length) ([], l, k) (by simp [hM]) ⟨hM.symm, rfl, by simp, h0⟩ ?_
    rintro ⟨pre, rest, k1⟩ ⟨h1, h2, h3, h4⟩
    simp only at h1 h2 h3 h4
    rcases rest with _ | ⟨⟨y_Op, y_Pc, y_H, y_R, y_Id, ⟨y_Q_Kind, ⟨y_Q_P_Kind, y_Q_P_Col, y_Q_P_Op, ⟨y_Q_P_V_Ty, y_Q_P_V_N, y_Q_P_V_S⟩, y_Q_P_L⟩, y_Q_Col, y_Q_Out⟩, y_Ts, y_Ver, y_L, y_I, y_J, y_S, y_At, y_Own, y_Won, y_Got⟩, rest⟩
    · unfold pl180_0
      simp only [mkTasks, ctTasks, List.append_nil, Int.add_zero] at h1 h2
      subst h1
      repeat' first|with_reducible (first|apply Z1|apply Z2|apply Z3|apply Z4|apply Z5|apply Z6|apply Z7|apply Z8|apply Z9|apply Y1|apply Y2|apply Y3|apply Y4|apply Y5|apply Y6|apply Y7|apply Y8|apply Y9)|(with_reducible refine Xk fun K k=>?_;simp;refine k _ ?_;clear k K)|refine Xt rfl ?_|refine Xf rfl ?_
      all_goals simp [pf180, h2]
    · unfold pl180_0
      simp only [mkTasks, ctTasks, mkTask, ctTask, List.length_cons] at h1 h2 h3
      have hnr := ctTasks_nn rest
      have hw : IntKind.wrap .i64 ((pre.length : Int) + 1) = (pre.length : Int) + 1 := wrap_i64 (by omega) (by omega)
      have hlt : (pre.length : Int) < (pre.length : Int) + ((rest.length : Int) + 1) := by omega
      have hl2 : (pre ++ [mkTask k1 ⟨y_Op, y_Pc, y_H, y_R, y_Id, ⟨y_Q_Kind, ⟨y_Q_P_Kind, y_Q_P_Col, y_Q_P_Op, ⟨y_Q_P_V_Ty, y_Q_P_V_N, y_Q_P_V_S⟩, y_Q_P_L⟩, y_Q_Col, y_Q_Out⟩, y_Ts, y_Ver, y_L, y_I, y_J, y_S, y_At, y_Own, y_Won, y_Got⟩]).length + rest.length = l.length := by simp only [List.length_append, List.length_cons, List.length_nil]; omega
      have hB2 : k1 + (1 + 1 + 1 + ctVals y_R + 1 + 1 + 1 + 1 + 1 + 1 + 1 + 1 + ctPreds y_Q_P_L + 1 + ctInts y_Q_Out + 1 + 1 + ctRefs y_L + 1 + 1 + 1 + 1 + 1 + 1 + ctRows y_Got) + ctTasks rest = k + ctTasks l := by omega
      obtain ⟨w1, w2, w3, w4, w5, w6, w7, w8, w9, w10, w11, w12, w13, w14, w15, w16, w17, w18, w19, w20, w21, w22, w23, w24, w25, hv0, hw0, hv1, hw1, hv2, hw2, hv3, hz3, hy3, hg3, hv4, hw4, hv5, hw5, hv6, hw6, hv7, hw7, hv8, hw8, hv9, hw9, hv10, hw10, hv11, hw11, ht11, hv12, hz12, hy12, hg12, hv13, hw13, hv14, hz14, hy14, hg14, hv15, hw15, hv16, hw16, hv17, hz17, hy17, hg17, hv18, hw18, hv19, hw19, hv20, hw20, hv21, hw21, hv22, hw22, hv23, hw23, hv24, hz24, hy24, hg24, hE, hZ⟩ := chainTask k1 (ctVals y_R) (ctPreds y_Q_P_L) (ctInts y_Q_Out) (ctRefs y_L) (ctRows y_Got) h4 (ctVals_nn y_R) (ctPreds_nn y_Q_P_L) (ctInts_nn y_Q_Out) (ctRefs_nn y_L) (ctRows_nn y_Got) (by omega)
      rw [hE] at h1 hB2
      try simp only [← hv0, ← hv1, ← hv2, ← hv3, ← hv4, ← hv5, ← hv6, ← hv7, ← hv8, ← hv9, ← hv10, ← hv11, ← hv12, ← hv13, ← hv14, ← hv15, ← hv16, ← hv17, ← hv18, ← hv19, ← hv20, ← hv21, ← hv22, ← hv23, ← hv24] at h1
      subst h1
      repeat' (first
        | with_reducible (first | refine wp_seq ?_ | refine wp_blk ?_ | refine wp_skip ?_ | refine wp_exit ?_ | refine wp_ret ?_ | refine seqQ_norm ?_ | refine seqQ_ret ?_ | refine seqQ_exit ?_ | refine blkQ_norm ?_ | refine blkQ_ret ?_ | refine blkQ_exit ?_ | refine loopQ_norm ?_ | refine loopQ_exit ?_ | refine loopQ_ret ?_ | refine endQ_ret ?_ | refine endQ_norm ?_ | refine endE_ret ?_ | refine endE_norm ?_ | refine endI_ret ?_ | refine endI_norm ?_)
        | (with_reducible refine wp_regK fun K hK => ?_
           simp[hw0, hw1, hw2, hz3, hy3, hg3, ← hv3, hw4, hw5, hw6, hw7, hw8, hw9, hw10, hw11, ht11, hz12, hy12, hg12, ← hv12, hw13, hz14, hy14, hg14, ← hv14, hw15, hw16, hz17, hy17, hg17, ← hv17, hw18, hw19, hw20, hw21, hw22, hw23, hz24, hy24, hg24, ← hv24, hw, hlt]
           repeat' (with_reducible first | refine hK _ ?_ | (refine psel ?_ ?_ <;> (intro hc; (try rw [Decidable.not_not] at hc); first | (try simp [hc, hw0, hw1, hw2, hz3, hy3, hg3, ← hv3, hw4, hw5, hw6, hw7, hw8, hw9, hw10, hw11, ht11, hz12, hy12, hg12, ← hv12, hw13, hz14, hy14, hg14, ← hv14, hw15, hw16, hz17, hy17, hg17, ← hv17, hw18, hw19, hw20, hw21, hw22, hw23, hz24, hy24, hg24, ← hv24, hw, hlt]))))
           all_goals (clear hK; clear K))
        | (with_reducible refine wp_condE ?_
           refine ⟨_, rfl, ?_, ?_⟩ <;> (intro hc; (try simp at hc); skip)))
      all_goals first | exact ⟨(pre ++ [mkTask k1 ⟨y_Op, y_Pc, y_H, y_R, y_Id, ⟨y_Q_Kind, ⟨y_Q_P_Kind, y_Q_P_Col, y_Q_P_Op, ⟨y_Q_P_V_Ty, y_Q_P_V_N, y_Q_P_V_S⟩, y_Q_P_L⟩, y_Q_Col, y_Q_Out⟩, y_Ts, y_Ver, y_L, y_I, y_J, y_S, y_At, y_Own, y_Won, y_Got⟩], rest, w25), by simp [mkTask, hv0, hv1, hv2, hv3, hv4, hv5, hv6, hv7, hv8, hv9, hv10, hv11, hv12, hv13, hv14, hv15, hv16, hv17, hv18, hv19, hv20, hv21, hv22, hv23, hv24], ⟨by simp [mkTask, hv0, hv1, hv2, hv3, hv4, hv5, hv6, hv7, hv8, hv9, hv10, hv11, hv12, hv13, hv14, hv15, hv16, hv17, hv18, hv19, hv20, hv21, hv22, hv23, hv24], hB2, hl2, hZ⟩, by simp⟩ | (exfalso; simp_all; done)

@[simp] theorem t188 (l : List XDeed) (k : Int) (h0 : 0 ≤ k) (hc : k + ctDeeds l ≤ 4611686018427387904) : Gw TT 188 [.one (.own (.sl 25 (l.map XDeed.e))), vi k] = some (vi (k + ctDeeds l), [(0, 0, .own (.sl 25 ((mkDeeds k l).map XDeed.e)))]) := by
  refine Gw_of (F := pf188) rfl rfl ?_
  show Wp _ pb188 _ _
  unfold pb188
  generalize hM : mkDeeds k l = M
  have hlen := ctDeeds_len l
  repeat' first|with_reducible (first|apply Z1|apply Z2|apply Z3|apply Z4|apply Z5|apply Z6|apply Z7|apply Z8|apply Z9|apply Y1|apply Y2|apply Y3|apply Y4|apply Y5|apply Y6|apply Y7|apply Y8|apply Y9)|(with_reducible refine Xk fun K k=>?_;simp;refine k _ ?_;clear k K)|refine Xt rfl ?_|refine Xf rfl ?_
  · refine wp_loopI (σ := List XDeed × List XDeed × Int) (fun s => [(0, AV.pl 0 0 [], some (Rt.vir [C.own (D.sl 25 (s.1.map XDeed.e ++ s.2.1.map XDeed.e))])), (1, AV.v false (di s.2.2), none), (5, AV.v false (di ((s.1.length : Nat) : Int)), none)]) (fun s => M = s.1 ++ mkDeeds s.2.2 s.2.1 ∧ s.2.2 + ctDeeds s.2.1 = k + ctDeeds l ∧ s.1.length + s.2.1.length = l.length ∧ 0 ≤ s.2.2) (fun s => s.2.1.length) ([], l, k) (by simp) ⟨hM.symm, rfl, by simp, h0⟩ ?_
    rintro ⟨pre, rest, k1⟩ ⟨h1, h2, h3, h4⟩
    simp only at h1 h2 h3 h4
    rcases rest with _ | ⟨⟨y_Op, y_Task, y_R, y_Id, ⟨y_Q_Kind, ⟨y_Q_P_Kind, y_Q_P_Col, y_Q_P_Op, ⟨y_Q_P_V_Ty, y_Q_P_V_N, y_Q_P_V_S⟩, y_Q_P_L⟩, y_Q_Col, y_Q_Out⟩, ⟨y_Res_Rows, y_Res_N, y_Res_Has, ⟨y_Res_V_Ty, y_Res_V_N, y_Res_V_S⟩⟩, y_Code, y_Stamp, y_Inv, y_Lin, y_Ret⟩, rest⟩
    · unfold pl188_0
      simp only [mkDeeds, ctDeeds, List.append_nil, Int.add_zero] at h1 h2
      subst h1
      repeat' first|with_reducible (first|apply Z1|apply Z2|apply Z3|apply Z4|apply Z5|apply Z6|apply Z7|apply Z8|apply Z9|apply Y1|apply Y2|apply Y3|apply Y4|apply Y5|apply Y6|apply Y7|apply Y8|apply Y9)|(with_reducible refine Xk fun K k=>?_;simp;refine k _ ?_;clear k K)|refine Xt rfl ?_|refine Xf rfl ?_
      all_goals simp [pf188, h2]
    · unfold pl188_0
      simp only [mkDeeds, ctDeeds, mkDeed, ctDeed, List.length_cons] at h1 h2 h3
      have hnr := ctDeeds_nn rest
      have hw : IntKind.wrap .i64 ((pre.length : Int) + 1) = (pre.length : Int) + 1 := wrap_i64 (by omega) (by omega)
      have hlt : (pre.length : Int) < (pre.length : Int) + ((rest.length : Int) + 1) := by omega
      have hl2 : (pre ++ [mkDeed k1 ⟨y_Op, y_Task, y_R, y_Id, ⟨y_Q_Kind, ⟨y_Q_P_Kind, y_Q_P_Col, y_Q_P_Op, ⟨y_Q_P_V_Ty, y_Q_P_V_N, y_Q_P_V_S⟩, y_Q_P_L⟩, y_Q_Col, y_Q_Out⟩, ⟨y_Res_Rows, y_Res_N, y_Res_Has, ⟨y_Res_V_Ty, y_Res_V_N, y_Res_V_S⟩⟩, y_Code, y_Stamp, y_Inv, y_Lin, y_Ret⟩]).length + rest.length = l.length := by simp only [List.length_append, List.length_cons, List.length_nil]; omega
      have hB2 : k1 + (1 + 1 + ctVals y_R + 1 + 1 + 1 + 1 + 1 + 1 + 1 + 1 + ctPreds y_Q_P_L + 1 + ctInts y_Q_Out + ctRows y_Res_Rows + 1 + 1 + 1 + 1 + 1 + 1 + 1 + 1 + 1 + 1) + ctDeeds rest = k + ctDeeds l := by omega
      obtain ⟨w1, w2, w3, w4, w5, w6, w7, w8, w9, w10, w11, w12, w13, w14, w15, w16, w17, w18, w19, w20, w21, w22, w23, w24, w25, hv0, hw0, hv1, hw1, hv2, hz2, hy2, hg2, hv3, hw3, hv4, hw4, hv5, hw5, hv6, hw6, hv7, hw7, hv8, hw8, hv9, hw9, hv10, hw10, ht10, hv11, hz11, hy11, hg11, hv12, hw12, hv13, hz13, hy13, hg13, hv14, hz14, hy14, hg14, hv15, hw15, hv16, hw16, hv17, hw17, hv18, hw18, hv19, hw19, ht19, hv20, hw20, hv21, hw21, hv22, hw22, hv23, hw23, hv24, hw24, hE, hZ⟩ := chainDeed k1 (ctVals y_R) (ctPreds y_Q_P_L) (ctInts y_Q_Out) (ctRows y_Res_Rows) h4 (ctVals_nn y_R) (ctPreds_nn y_Q_P_L) (ctInts_nn y_Q_Out) (ctRows_nn y_Res_Rows) (by omega)
      rw [hE] at h1 hB2
      try simp only [← hv0, ← hv1, ← hv2, ← hv3, ← hv4, ← hv5, ← hv6, ← hv7, ← hv8, ← hv9, ← hv10, ← hv11, ← hv12, ← hv13, ← hv14, ← hv15, ← hv16, ← hv17, ← hv18, ← hv19, ← hv20, ← hv21, ← hv22, ← hv23, ← hv24] at h1
      subst h1
      repeat' (first
        | with_reducible (first | refine wp_seq ?_ | refine wp_blk ?_ | refine wp_skip ?_ | refine wp_exit ?_ | refine wp_ret ?_ | refine seqQ_norm ?_ | refine seqQ_ret ?_ | refine seqQ_exit ?_ | refine blkQ_norm ?_ | refine blkQ_ret ?_ | refine blkQ_exit ?_ | refine loopQ_norm ?_ | refine loopQ_exit ?_ | refine loopQ_ret ?_ | refine endQ_ret ?_ | refine endQ_norm ?_ | refine endE_ret ?_ | refine endE_norm ?_ | refine endI_ret ?_ | refine endI_norm ?_)
        | (with_reducible refine wp_regK fun K hK => ?_
           simp[hw0, hw1, hz2, hy2, hg2, ← hv2, hw3, hw4, hw5, hw6, hw7, hw8, hw9, hw10, ht10, hz11, hy11, hg11, ← hv11, hw12, hz13, hy13, hg13, ← hv13, hz14, hy14, hg14, ← hv14, hw15, hw16, hw17, hw18, hw19, ht19, hw20, hw21, hw22, hw23, hw24, hw, hlt]
           repeat' (with_reducible first | refine hK _ ?_ | (refine psel ?_ ?_ <;> (intro hc; (try rw [Decidable.not_not] at hc); first | (try simp [hc, hw0, hw1, hz2, hy2, hg2, ← hv2, hw3, hw4, hw5, hw6, hw7, hw8, hw9, hw10, ht10, hz11, hy11, hg11, ← hv11, hw12, hz13, hy13, hg13, ← hv13, hz14, hy14, hg14, ← hv14, hw15, hw16, hw17, hw18, hw19, ht19, hw20, hw21, hw22, hw23, hw24, hw, hlt]))))
           all_goals (clear hK; clear K))
        | (with_reducible refine wp_condE ?_
           refine ⟨_, rfl, ?_, ?_⟩ <;> (intro hc; (try simp at hc); skip)))
      all_goals first | exact ⟨(pre ++ [mkDeed k1 ⟨y_Op, y_Task, y_R, y_Id, ⟨y_Q_Kind, ⟨y_Q_P_Kind, y_Q_P_Col, y_Q_P_Op, ⟨y_Q_P_V_Ty, y_Q_P_V_N, y_Q_P_V_S⟩, y_Q_P_L⟩, y_Q_Col, y_Q_Out⟩, ⟨y_Res_Rows, y_Res_N, y_Res_Has, ⟨y_Res_V_Ty, y_Res_V_N, y_Res_V_S⟩⟩, y_Code, y_Stamp, y_Inv, y_Lin, y_Ret⟩], rest, w25), by simp [mkDeed, hv0, hv1, hv2, hv3, hv4, hv5, hv6, hv7, hv8, hv9, hv10, hv11, hv12, hv13, hv14, hv15, hv16, hv17, hv18, hv19, hv20, hv21, hv22, hv23, hv24], ⟨by simp [mkDeed, hv0, hv1, hv2, hv3, hv4, hv5, hv6, hv7, hv8, hv9, hv10, hv11, hv12, hv13, hv14, hv15, hv16, hv17, hv18, hv19, hv20, hv21, hv22, hv23, hv24], hB2, hl2, hZ⟩, by simp⟩ | (exfalso; simp_all; done)

@[simp] theorem t173 (k0 : Bool) (l : List XDeed) (k : Int) (h0 : 0 ≤ k) (hc : k + ctDeeds l ≤ 4611686018427387904) : Gw TT 173 [.one (.ro k0 (.sl 25 ((mkDeeds k l).map XDeed.e))), vi k] = some (vi (k + ctDeeds l), []) := by
  refine Gw_of (F := pf173) rfl rfl ?_
  show Wp _ pb173 _ _
  unfold pb173
  generalize hM : mkDeeds k l = M
  have hlen := ctDeeds_len l
  repeat' first|with_reducible (first|apply Z1|apply Z2|apply Z3|apply Z4|apply Z5|apply Z6|apply Z7|apply Z8|apply Z9|apply Y1|apply Y2|apply Y3|apply Y4|apply Y5|apply Y6|apply Y7|apply Y8|apply Y9)|(with_reducible refine Xk fun K k=>?_;simp;refine k _ ?_;clear k K)|refine Xt rfl ?_|refine Xf rfl ?_
  · refine wp_loopI (σ := List XDeed × List XDeed × Int) (fun s => [(0, AV.v k0 (D.sl 25 (M.map XDeed.e)), none), (1, AV.v false (di s.2.2), none), (5, AV.v false (di ((s.1.length : Nat) : Int)), none)]) (fun s => M = s.1 ++ mkDeeds s.2.2 s.2.1 ∧ s.2.2 + ctDeeds s.2.1 = k + ctDeeds l ∧ s.1.length + s.2.1.length = l.length ∧ 0 ≤ s.2.2) (fun s => s.2.1.length) ([], l, k) (by simp [hM]) ⟨hM.symm, rfl, by simp, h0⟩ ?_
    rintro ⟨pre, rest, k1⟩ ⟨h1, h2, h3, h4⟩
    simp only at h1 h2 h3 h4
    rcases rest with _ | ⟨⟨y_Op, y_Task, y_R, y_Id, ⟨y_Q_Kind, ⟨y_Q_P_Kind, y_Q_P_Col, y_Q_P_Op, ⟨y_Q_P_V_Ty, y_Q_P_V_N, y_Q_P_V_S⟩, y_Q_P_L⟩, y_Q_Col, y_Q_Out⟩, ⟨y_Res_Rows, y_Res_N, y_Res_Has, ⟨y_Res_V_Ty, y_Res_V_N, y_Res_V_S⟩⟩, y_Code, y_Stamp, y_Inv, y_Lin, y_Ret⟩, rest⟩
    · unfold pl173_0
      simp only [mkDeeds, ctDeeds, List.append_nil, Int.add_zero] at h1 h2
      subst h1
      repeat' first|with_reducible (first|apply Z1|apply Z2|apply Z3|apply Z4|apply Z5|apply Z6|apply Z7|apply Z8|apply Z9|apply Y1|apply Y2|apply Y3|apply Y4|apply Y5|apply Y6|apply Y7|apply Y8|apply Y9)|(with_reducible refine Xk fun K k=>?_;simp;refine k _ ?_;clear k K)|refine Xt rfl ?_|refine Xf rfl ?_
      all_goals simp [pf173, h2]
    · unfold pl173_0
      simp only [mkDeeds, ctDeeds, mkDeed, ctDeed, List.length_cons] at h1 h2 h3
      have hnr := ctDeeds_nn rest
      have hw : IntKind.wrap .i64 ((pre.length : Int) + 1) = (pre.length : Int) + 1 := wrap_i64 (by omega) (by omega)
      have hlt : (pre.length : Int) < (pre.length : Int) + ((rest.length : Int) + 1) := by omega
      have hl2 : (pre ++ [mkDeed k1 ⟨y_Op, y_Task, y_R, y_Id, ⟨y_Q_Kind, ⟨y_Q_P_Kind, y_Q_P_Col, y_Q_P_Op, ⟨y_Q_P_V_Ty, y_Q_P_V_N, y_Q_P_V_S⟩, y_Q_P_L⟩, y_Q_Col, y_Q_Out⟩, ⟨y_Res_Rows, y_Res_N, y_Res_Has, ⟨y_Res_V_Ty, y_Res_V_N, y_Res_V_S⟩⟩, y_Code, y_Stamp, y_Inv, y_Lin, y_Ret⟩]).length + rest.length = l.length := by simp only [List.length_append, List.length_cons, List.length_nil]; omega
      have hB2 : k1 + (1 + 1 + ctVals y_R + 1 + 1 + 1 + 1 + 1 + 1 + 1 + 1 + ctPreds y_Q_P_L + 1 + ctInts y_Q_Out + ctRows y_Res_Rows + 1 + 1 + 1 + 1 + 1 + 1 + 1 + 1 + 1 + 1) + ctDeeds rest = k + ctDeeds l := by omega
      obtain ⟨w1, w2, w3, w4, w5, w6, w7, w8, w9, w10, w11, w12, w13, w14, w15, w16, w17, w18, w19, w20, w21, w22, w23, w24, w25, hv0, hw0, hv1, hw1, hv2, hz2, hy2, hg2, hv3, hw3, hv4, hw4, hv5, hw5, hv6, hw6, hv7, hw7, hv8, hw8, hv9, hw9, hv10, hw10, ht10, hv11, hz11, hy11, hg11, hv12, hw12, hv13, hz13, hy13, hg13, hv14, hz14, hy14, hg14, hv15, hw15, hv16, hw16, hv17, hw17, hv18, hw18, hv19, hw19, ht19, hv20, hw20, hv21, hw21, hv22, hw22, hv23, hw23, hv24, hw24, hE, hZ⟩ := chainDeed k1 (ctVals y_R) (ctPreds y_Q_P_L) (ctInts y_Q_Out) (ctRows y_Res_Rows) h4 (ctVals_nn y_R) (ctPreds_nn y_Q_P_L) (ctInts_nn y_Q_Out) (ctRows_nn y_Res_Rows) (by omega)
      rw [hE] at h1 hB2
      try simp only [← hv0, ← hv1, ← hv2, ← hv3, ← hv4, ← hv5, ← hv6, ← hv7, ← hv8, ← hv9, ← hv10, ← hv11, ← hv12, ← hv13, ← hv14, ← hv15, ← hv16, ← hv17, ← hv18, ← hv19, ← hv20, ← hv21, ← hv22, ← hv23, ← hv24] at h1
      subst h1
      repeat' (first
        | with_reducible (first | refine wp_seq ?_ | refine wp_blk ?_ | refine wp_skip ?_ | refine wp_exit ?_ | refine wp_ret ?_ | refine seqQ_norm ?_ | refine seqQ_ret ?_ | refine seqQ_exit ?_ | refine blkQ_norm ?_ | refine blkQ_ret ?_ | refine blkQ_exit ?_ | refine loopQ_norm ?_ | refine loopQ_exit ?_ | refine loopQ_ret ?_ | refine endQ_ret ?_ | refine endQ_norm ?_ | refine endE_ret ?_ | refine endE_norm ?_ | refine endI_ret ?_ | refine endI_norm ?_)
        | (with_reducible refine wp_regK fun K hK => ?_
           simp[hw0, hw1, hz2, hy2, hg2, ← hv2, hw3, hw4, hw5, hw6, hw7, hw8, hw9, hw10, ht10, hz11, hy11, hg11, ← hv11, hw12, hz13, hy13, hg13, ← hv13, hz14, hy14, hg14, ← hv14, hw15, hw16, hw17, hw18, hw19, ht19, hw20, hw21, hw22, hw23, hw24, hw, hlt]
           repeat' (with_reducible first | refine hK _ ?_ | (refine psel ?_ ?_ <;> (intro hc; (try rw [Decidable.not_not] at hc); first | (try simp [hc, hw0, hw1, hz2, hy2, hg2, ← hv2, hw3, hw4, hw5, hw6, hw7, hw8, hw9, hw10, ht10, hz11, hy11, hg11, ← hv11, hw12, hz13, hy13, hg13, ← hv13, hz14, hy14, hg14, ← hv14, hw15, hw16, hw17, hw18, hw19, ht19, hw20, hw21, hw22, hw23, hw24, hw, hlt]))))
           all_goals (clear hK; clear K))
        | (with_reducible refine wp_condE ?_
           refine ⟨_, rfl, ?_, ?_⟩ <;> (intro hc; (try simp at hc); skip)))
      all_goals first | exact ⟨(pre ++ [mkDeed k1 ⟨y_Op, y_Task, y_R, y_Id, ⟨y_Q_Kind, ⟨y_Q_P_Kind, y_Q_P_Col, y_Q_P_Op, ⟨y_Q_P_V_Ty, y_Q_P_V_N, y_Q_P_V_S⟩, y_Q_P_L⟩, y_Q_Col, y_Q_Out⟩, ⟨y_Res_Rows, y_Res_N, y_Res_Has, ⟨y_Res_V_Ty, y_Res_V_N, y_Res_V_S⟩⟩, y_Code, y_Stamp, y_Inv, y_Lin, y_Ret⟩], rest, w25), by simp [mkDeed, hv0, hv1, hv2, hv3, hv4, hv5, hv6, hv7, hv8, hv9, hv10, hv11, hv12, hv13, hv14, hv15, hv16, hv17, hv18, hv19, hv20, hv21, hv22, hv23, hv24], ⟨by simp [mkDeed, hv0, hv1, hv2, hv3, hv4, hv5, hv6, hv7, hv8, hv9, hv10, hv11, hv12, hv13, hv14, hv15, hv16, hv17, hv18, hv19, hv20, hv21, hv22, hv23, hv24], hB2, hl2, hZ⟩, by simp⟩ | (exfalso; simp_all; done)

@[simp] theorem t198 (x_C_Cols : List Int) (x_C_Slots : Int) (x_C_Bufs : Int) (x_Time : Int) (x_T : Int) (x_E : Int) (x_Dd_Ver : Int) (x_Dd_L : List XRef) (x_B : List XBuf) (x_M : List Int) (x_X : List XDead) (x_P : List Int) (x_Tasks : List XTask) (x_Deeds : List XDeed) (k : Int) (h0 : 0 ≤ k) (hc : k + ctInts x_C_Cols + ctRefs x_Dd_L + ctBufs x_B + ctInts x_M + ctDeads x_X + ctInts x_P + ctTasks x_Tasks + ctDeeds x_Deeds ≤ 4611686018427387904) : Gw TT 198 [.st [.own (.sl 1 (x_C_Cols.map ei)), .ro false (di x_C_Slots), .ro false (di x_C_Bufs), .ro false (di x_Time), .ro false (di x_T), .ro false (di x_E), .ro false (di x_Dd_Ver), .own (.sl 5 (x_Dd_L.map XRef.e)), .own (.sl 5 (x_B.map XBuf.e)), .own (.sl 1 (x_M.map ei)), .own (.sl 3 (x_X.map XDead.e)), .own (.sl 1 (x_P.map ei)), .own (.sl 25 (x_Tasks.map XTask.e)), .own (.sl 25 (x_Deeds.map XDeed.e))], vi k] = some (vi (k + ctInts x_C_Cols + ctRefs x_Dd_L + ctBufs x_B + ctInts x_M + ctDeads x_X + ctInts x_P + ctTasks x_Tasks + ctDeeds x_Deeds), [(0, 0, .own (.sl 1 ((mkInts (k) x_C_Cols).map ei))), (0, 7, .own (.sl 5 ((mkRefs (k + ctInts x_C_Cols) x_Dd_L).map XRef.e))), (0, 8, .own (.sl 5 ((mkBufs (k + ctInts x_C_Cols + ctRefs x_Dd_L) x_B).map XBuf.e))), (0, 9, .own (.sl 1 ((mkInts (k + ctInts x_C_Cols + ctRefs x_Dd_L + ctBufs x_B) x_M).map ei))), (0, 10, .own (.sl 3 ((mkDeads (k + ctInts x_C_Cols + ctRefs x_Dd_L + ctBufs x_B + ctInts x_M) x_X).map XDead.e))), (0, 11, .own (.sl 1 ((mkInts (k + ctInts x_C_Cols + ctRefs x_Dd_L + ctBufs x_B + ctInts x_M + ctDeads x_X) x_P).map ei))), (0, 12, .own (.sl 25 ((mkTasks (k + ctInts x_C_Cols + ctRefs x_Dd_L + ctBufs x_B + ctInts x_M + ctDeads x_X + ctInts x_P) x_Tasks).map XTask.e))), (0, 13, .own (.sl 25 ((mkDeeds (k + ctInts x_C_Cols + ctRefs x_Dd_L + ctBufs x_B + ctInts x_M + ctDeads x_X + ctInts x_P + ctTasks x_Tasks) x_Deeds).map XDeed.e)))]) := by
  refine Gw_of (F := pf198) rfl rfl ?_
  show Wp _ pb198 _ _
  unfold pb198
  have hn_x_C_Cols := ctInts_nn x_C_Cols
  have hn_x_Dd_L := ctRefs_nn x_Dd_L
  have hn_x_B := ctBufs_nn x_B
  have hn_x_M := ctInts_nn x_M
  have hn_x_X := ctDeads_nn x_X
  have hn_x_P := ctInts_nn x_P
  have hn_x_Tasks := ctTasks_nn x_Tasks
  have hn_x_Deeds := ctDeeds_nn x_Deeds
  have hz0 : 0 ≤ k := by omega
  have hy0 : k + ctInts x_C_Cols ≤ 4611686018427387904 := by omega
  have hz7 : 0 ≤ k + ctInts x_C_Cols := by omega
  have hy7 : k + ctInts x_C_Cols + ctRefs x_Dd_L ≤ 4611686018427387904 := by omega
  have hz8 : 0 ≤ k + ctInts x_C_Cols + ctRefs x_Dd_L := by omega
  have hy8 : k + ctInts x_C_Cols + ctRefs x_Dd_L + ctBufs x_B ≤ 4611686018427387904 := by omega
  have hz9 : 0 ≤ k + ctInts x_C_Cols + ctRefs x_Dd_L + ctBufs x_B := by omega
  have hy9 : k + ctInts x_C_Cols + ctRefs x_Dd_L + ctBufs x_B + ctInts x_M ≤ 4611686018427387904 := by omega
  have hz10 : 0 ≤ k + ctInts x_C_Cols + ctRefs x_Dd_L + ctBufs x_B + ctInts x_M := by omega
  have hy10 : k + ctInts x_C_Cols + ctRefs x_Dd_L + ctBufs x_B + ctInts x_M + ctDeads x_X ≤ 4611686018427387904 := by omega
  have hz11 : 0 ≤ k + ctInts x_C_Cols + ctRefs x_Dd_L + ctBufs x_B + ctInts x_M + ctDeads x_X := by omega
  have hy11 : k + ctInts x_C_Cols + ctRefs x_Dd_L + ctBufs x_B + ctInts x_M + ctDeads x_X + ctInts x_P ≤ 4611686018427387904 := by omega
  have hz12 : 0 ≤ k + ctInts x_C_Cols + ctRefs x_Dd_L + ctBufs x_B + ctInts x_M + ctDeads x_X + ctInts x_P := by omega
  have hy12 : k + ctInts x_C_Cols + ctRefs x_Dd_L + ctBufs x_B + ctInts x_M + ctDeads x_X + ctInts x_P + ctTasks x_Tasks ≤ 4611686018427387904 := by omega
  have hz13 : 0 ≤ k + ctInts x_C_Cols + ctRefs x_Dd_L + ctBufs x_B + ctInts x_M + ctDeads x_X + ctInts x_P + ctTasks x_Tasks := by omega
  have hy13 : k + ctInts x_C_Cols + ctRefs x_Dd_L + ctBufs x_B + ctInts x_M + ctDeads x_X + ctInts x_P + ctTasks x_Tasks + ctDeeds x_Deeds ≤ 4611686018427387904 := by omega
  repeat' first|with_reducible (first|apply Z1|apply Z2|apply Z3|apply Z4|apply Z5|apply Z6|apply Z7|apply Z8|apply Z9|apply Y1|apply Y2|apply Y3|apply Y4|apply Y5|apply Y6|apply Y7|apply Y8|apply Y9)|(with_reducible refine Xk fun K k=>?_;simp [hz0, hy0, hz7, hy7, hz8, hy8, hz9, hy9, hz10, hy10, hz11, hy11, hz12, hy12, hz13, hy13];refine k _ ?_;clear k K)|refine Xt rfl ?_|refine Xf rfl ?_
  all_goals first | (simp [pf198]; done) | (exfalso; omega)

@[simp] theorem t182 (k0 : Bool) (x_C_Cols : List Int) (x_C_Slots : Int) (x_C_Bufs : Int) (x_Time : Int) (x_T : Int) (x_E : Int) (x_Dd_Ver : Int) (x_Dd_L : List XRef) (x_B : List XBuf) (x_M : List Int) (x_X : List XDead) (x_P : List Int) (x_Tasks : List XTask) (x_Deeds : List XDeed) (k : Int) (h0 : 0 ≤ k) (hc : k + ctInts x_C_Cols + ctRefs x_Dd_L + ctBufs x_B + ctInts x_M + ctDeads x_X + ctInts x_P + ctTasks x_Tasks + ctDeeds x_Deeds ≤ 4611686018427387904) : Gw TT 182 [.st [.ro k0 (.sl 1 ((mkInts (k) x_C_Cols).map ei)), .ro false (di x_C_Slots), .ro false (di x_C_Bufs), .ro false (di x_Time), .ro false (di x_T), .ro false (di x_E), .ro false (di x_Dd_Ver), .ro k0 (.sl 5 ((mkRefs (k + ctInts x_C_Cols) x_Dd_L).map XRef.e)), .ro k0 (.sl 5 ((mkBufs (k + ctInts x_C_Cols + ctRefs x_Dd_L) x_B).map XBuf.e)), .ro k0 (.sl 1 ((mkInts (k + ctInts x_C_Cols + ctRefs x_Dd_L + ctBufs x_B) x_M).map ei)), .ro k0 (.sl 3 ((mkDeads (k + ctInts x_C_Cols + ctRefs x_Dd_L + ctBufs x_B + ctInts x_M) x_X).map XDead.e)), .ro k0 (.sl 1 ((mkInts (k + ctInts x_C_Cols + ctRefs x_Dd_L + ctBufs x_B + ctInts x_M + ctDeads x_X) x_P).map ei)), .ro k0 (.sl 25 ((mkTasks (k + ctInts x_C_Cols + ctRefs x_Dd_L + ctBufs x_B + ctInts x_M + ctDeads x_X + ctInts x_P) x_Tasks).map XTask.e)), .ro k0 (.sl 25 ((mkDeeds (k + ctInts x_C_Cols + ctRefs x_Dd_L + ctBufs x_B + ctInts x_M + ctDeads x_X + ctInts x_P + ctTasks x_Tasks) x_Deeds).map XDeed.e))], vi k] = some (vi (k + ctInts x_C_Cols + ctRefs x_Dd_L + ctBufs x_B + ctInts x_M + ctDeads x_X + ctInts x_P + ctTasks x_Tasks + ctDeeds x_Deeds), []) := by
  refine Gw_of (F := pf182) rfl rfl ?_
  show Wp _ pb182 _ _
  unfold pb182
  have hn_x_C_Cols := ctInts_nn x_C_Cols
  have hn_x_Dd_L := ctRefs_nn x_Dd_L
  have hn_x_B := ctBufs_nn x_B
  have hn_x_M := ctInts_nn x_M
  have hn_x_X := ctDeads_nn x_X
  have hn_x_P := ctInts_nn x_P
  have hn_x_Tasks := ctTasks_nn x_Tasks
  have hn_x_Deeds := ctDeeds_nn x_Deeds
  have hz0 : 0 ≤ k := by omega
  have hy0 : k + ctInts x_C_Cols ≤ 4611686018427387904 := by omega
  have hz7 : 0 ≤ k + ctInts x_C_Cols := by omega
  have hy7 : k + ctInts x_C_Cols + ctRefs x_Dd_L ≤ 4611686018427387904 := by omega
  have hz8 : 0 ≤ k + ctInts x_C_Cols + ctRefs x_Dd_L := by omega
  have hy8 : k + ctInts x_C_Cols + ctRefs x_Dd_L + ctBufs x_B ≤ 4611686018427387904 := by omega
  have hz9 : 0 ≤ k + ctInts x_C_Cols + ctRefs x_Dd_L + ctBufs x_B := by omega
  have hy9 : k + ctInts x_C_Cols + ctRefs x_Dd_L + ctBufs x_B + ctInts x_M ≤ 4611686018427387904 := by omega
  have hz10 : 0 ≤ k + ctInts x_C_Cols + ctRefs x_Dd_L + ctBufs x_B + ctInts x_M := by omega
  have hy10 : k + ctInts x_C_Cols + ctRefs x_Dd_L + ctBufs x_B + ctInts x_M + ctDeads x_X ≤ 4611686018427387904 := by omega
  have hz11 : 0 ≤ k + ctInts x_C_Cols + ctRefs x_Dd_L + ctBufs x_B + ctInts x_M + ctDeads x_X := by omega
  have hy11 : k + ctInts x_C_Cols + ctRefs x_Dd_L + ctBufs x_B + ctInts x_M + ctDeads x_X + ctInts x_P ≤ 4611686018427387904 := by omega
  have hz12 : 0 ≤ k + ctInts x_C_Cols + ctRefs x_Dd_L + ctBufs x_B + ctInts x_M + ctDeads x_X + ctInts x_P := by omega
  have hy12 : k + ctInts x_C_Cols + ctRefs x_Dd_L + ctBufs x_B + ctInts x_M + ctDeads x_X + ctInts x_P + ctTasks x_Tasks ≤ 4611686018427387904 := by omega
  have hz13 : 0 ≤ k + ctInts x_C_Cols + ctRefs x_Dd_L + ctBufs x_B + ctInts x_M + ctDeads x_X + ctInts x_P + ctTasks x_Tasks := by omega
  have hy13 : k + ctInts x_C_Cols + ctRefs x_Dd_L + ctBufs x_B + ctInts x_M + ctDeads x_X + ctInts x_P + ctTasks x_Tasks + ctDeeds x_Deeds ≤ 4611686018427387904 := by omega
  repeat' first|with_reducible (first|apply Z1|apply Z2|apply Z3|apply Z4|apply Z5|apply Z6|apply Z7|apply Z8|apply Z9|apply Y1|apply Y2|apply Y3|apply Y4|apply Y5|apply Y6|apply Y7|apply Y8|apply Y9)|(with_reducible refine Xk fun K k=>?_;simp [hz0, hy0, hz7, hy7, hz8, hy8, hz9, hy9, hz10, hy10, hz11, hy11, hz12, hy12, hz13, hy13];repeat' (with_reducible first|refine k _ ?_|(refine psel ?_ ?_<;>(intro hc;(try rw [Decidable.not_not] at hc);first|(exfalso;omega)|(try simp [hc, hz0, hy0, hz7, hy7, hz8, hy8, hz9, hy9, hz10, hy10, hz11, hy11, hz12, hy12, hz13, hy13]))));all_goals clear k K)|refine Xt rfl ?_|refine Xf rfl ?_|(with_reducible refine wp_condE ?_;refine ⟨_,rfl,?_,?_⟩<;>(intro hc;(try simp at hc);(all_goals first|(exfalso;omega)|skip)))
  all_goals first | (simp [pf182]; done) | (exfalso; omega)

theorem ctVals_app : ∀ (l : List XVal) (x : XVal), ctVals (l ++ [x]) = ctVals l + ctVal x
  | [], x => by simp [ctVals]
  | y :: l, x => by have := ctVals_app l x; simp only [List.cons_append, ctVals, this]; omega

theorem ctRows_app : ∀ (l : List XRow) (x : XRow), ctRows (l ++ [x]) = ctRows l + ctRow x
  | [], x => by simp [ctRows]
  | y :: l, x => by have := ctRows_app l x; simp only [List.cons_append, ctRows, this]; omega

theorem ctSlots_app : ∀ (l : List XSlot) (x : XSlot), ctSlots (l ++ [x]) = ctSlots l + ctSlot x
  | [], x => by simp [ctSlots]
  | y :: l, x => by have := ctSlots_app l x; simp only [List.cons_append, ctSlots, this]; omega

theorem ctBufs_app : ∀ (l : List XBuf) (x : XBuf), ctBufs (l ++ [x]) = ctBufs l + ctBuf x
  | [], x => by simp [ctBufs]
  | y :: l, x => by have := ctBufs_app l x; simp only [List.cons_append, ctBufs, this]; omega

theorem ctPreds_app : ∀ (l : List XPred) (x : XPred), ctPreds (l ++ [x]) = ctPreds l + ctPred x
  | [], x => by simp [ctPreds]
  | y :: l, x => by have := ctPreds_app l x; simp only [List.cons_append, ctPreds, this]; omega

theorem ctTasks_app : ∀ (l : List XTask) (x : XTask), ctTasks (l ++ [x]) = ctTasks l + ctTask x
  | [], x => by simp [ctTasks]
  | y :: l, x => by have := ctTasks_app l x; simp only [List.cons_append, ctTasks, this]; omega

theorem ctDeeds_app : ∀ (l : List XDeed) (x : XDeed), ctDeeds (l ++ [x]) = ctDeeds l + ctDeed x
  | [], x => by simp [ctDeeds]
  | y :: l, x => by have := ctDeeds_app l x; simp only [List.cons_append, ctDeeds, this]; omega

theorem t219b (k0 : Bool) (l : List Int) (left : Int) (h0 : 0 ≤ left) (h1 : left ≤ 1048576) (hl : l.length ≤ 9223372036854775807) :
    ∃ n, Gw TT 219 [.one (.ro k0 (.sl 1 (l.map ei))), vi left] = some (vi n, []) ∧ -1 ≤ n ∧ n ≤ left ∧ (0 ≤ n → ctInts l ≤ 31 * (left - n)) := by
  refine Gw_ofI (F := pf219) rfl rfl ?_
  show Wp _ pb219 _ _
  unfold pb219
  have g : IntKind.wrap .i64 (left - (l.length : Int)) = left - (l.length : Int) := wrap_i64 (by omega) (by omega)
  repeat' first|with_reducible (first|apply Z1|apply Z2|apply Z3|apply Z4|apply Z5|apply Z6|apply Z7|apply Z8|apply Z9|apply Y1|apply Y2|apply Y3|apply Y4|apply Y5|apply Y6|apply Y7|apply Y8|apply Y9)|(with_reducible refine Xk fun K k=>?_;simp [g];repeat' (with_reducible first|refine k _ ?_|(refine psel ?_ ?_<;>(intro hc;(try rw [Decidable.not_not] at hc);first|(exfalso;omega)|(try simp [hc, g]))));all_goals clear k K)|refine Xt rfl ?_|refine Xf rfl ?_|(with_reducible refine wp_condE ?_;refine ⟨_,rfl,?_,?_⟩<;>(intro hc;(try simp at hc);(all_goals first|(exfalso;omega)|skip)))
  · exact ⟨-1, by simp [pf219], by omega, by omega, fun h => absurd h (by omega)⟩
  · have hq := ctInts_le l
    exact ⟨left - (l.length : Int), by simp [pf219], by omega, by omega, fun _ => by omega⟩

theorem t212b (k0 : Bool) (l : List Int) (left : Int) (h0 : 0 ≤ left) (h1 : left ≤ 1048576) (hl : l.length ≤ 9223372036854775807) :
    ∃ n, Gw TT 212 [.one (.ro k0 (.sl 1 (l.map eb))), vi left] = some (vi n, []) ∧ -1 ≤ n ∧ n ≤ left ∧ (0 ≤ n → ctBytes l ≤ 31 * (left - n)) := by
  refine Gw_ofI (F := pf212) rfl rfl ?_
  show Wp _ pb212 _ _
  unfold pb212
  have g : IntKind.wrap .i64 (left - (l.length : Int)) = left - (l.length : Int) := wrap_i64 (by omega) (by omega)
  repeat' first|with_reducible (first|apply Z1|apply Z2|apply Z3|apply Z4|apply Z5|apply Z6|apply Z7|apply Z8|apply Z9|apply Y1|apply Y2|apply Y3|apply Y4|apply Y5|apply Y6|apply Y7|apply Y8|apply Y9)|(with_reducible refine Xk fun K k=>?_;simp [g];repeat' (with_reducible first|refine k _ ?_|(refine psel ?_ ?_<;>(intro hc;(try rw [Decidable.not_not] at hc);first|(exfalso;omega)|(try simp [hc, g]))));all_goals clear k K)|refine Xt rfl ?_|refine Xf rfl ?_|(with_reducible refine wp_condE ?_;refine ⟨_,rfl,?_,?_⟩<;>(intro hc;(try simp at hc);(all_goals first|(exfalso;omega)|skip)))
  · exact ⟨-1, by simp [pf212], by omega, by omega, fun h => absurd h (by omega)⟩
  · have hq := ctBytes_le l
    exact ⟨left - (l.length : Int), by simp [pf212], by omega, by omega, fun _ => by omega⟩

theorem t231b (x_Ty : Int) (x_N : Int) (x_S : ByteArray) (left : Int) (h0 : 0 ≤ left) (h1 : left ≤ 1048576) (hok_x_S : x_S.size ≤ 9223372036854775807) :
    ∃ n, Gw TT 231 [.st [.ro false (di x_Ty), .ro false (di x_N), .ro false (.str x_S)], vi left] = some (vi n, []) ∧ -1 ≤ n ∧ n ≤ left ∧ (0 ≤ n → 0 ≤ 31 * (left - n)) := by
  refine Gw_ofI (F := pf231) rfl rfl ?_
  show Wp _ pb231 _ _
  unfold pb231
  have g1 : IntKind.wrap .i64 (left - (x_S.size : Int)) = left - (x_S.size : Int) := wrap_i64 (by omega) (by omega)
  repeat' first|with_reducible (first|apply Z1|apply Z2|apply Z3|apply Z4|apply Z5|apply Z6|apply Z7|apply Z8|apply Z9|apply Y1|apply Y2|apply Y3|apply Y4|apply Y5|apply Y6|apply Y7|apply Y8|apply Y9)|(with_reducible refine Xk fun K k=>?_;simp [g1];repeat' (with_reducible first|refine k _ ?_|(refine psel ?_ ?_<;>(intro hc;(try rw [Decidable.not_not] at hc);first|(exfalso;omega)|(try simp [hc, g1]))));all_goals clear k K)|refine Xt rfl ?_|refine Xf rfl ?_|(with_reducible refine wp_condE ?_;refine ⟨_,rfl,?_,?_⟩<;>(intro hc;(try simp at hc);(all_goals first|(exfalso;omega)|skip)))
  · exact ⟨-1, by simp [pf231], by omega, by omega, fun h => absurd h (by omega)⟩
  · exact ⟨left - (x_S.size : Int), by simp [pf231], by omega, by omega, fun _ => by omega⟩

theorem t232b (k0 : Bool) (l : List XVal) (left : Int) (h0 : 0 ≤ left) (h1 : left ≤ 1048576) (hl : l.length ≤ 9223372036854775807) (hok : XVal.oks l) :
    ∃ n, Gw TT 232 [.one (.ro k0 (.sl 3 (l.map XVal.e))), vi left] = some (vi n, []) ∧ -1 ≤ n ∧ n ≤ left ∧ (0 ≤ n → ctVals l ≤ 31 * (left - n)) := by
  refine Gw_ofI (F := pf232) rfl rfl ?_
  show Wp _ pb232 _ _
  unfold pb232
  have g : IntKind.wrap .i64 (left - (l.length : Int)) = left - (l.length : Int) := wrap_i64 (by omega) (by omega)
  repeat' (first
    | with_reducible (first | refine wp_seq ?_ | refine wp_blk ?_ | refine wp_skip ?_ | refine wp_exit ?_ | refine wp_ret ?_ | refine seqQ_norm ?_ | refine seqQ_ret ?_ | refine seqQ_exit ?_ | refine blkQ_norm ?_ | refine blkQ_ret ?_ | refine blkQ_exit ?_ | refine loopQ_norm ?_ | refine loopQ_exit ?_ | refine loopQ_ret ?_ | refine endQ_ret ?_ | refine endQ_norm ?_ | refine endE_ret ?_ | refine endE_norm ?_ | refine endI_ret ?_ | refine endI_norm ?_)
    | (with_reducible refine wp_regK fun K hK => ?_
       simp[g]
       repeat' (with_reducible first | refine hK _ ?_ | (refine psel ?_ ?_ <;> (intro hc; (try rw [Decidable.not_not] at hc); first | (exfalso; omega) | (try simp [hc, g]))))
       all_goals (clear hK; clear K))
    | (with_reducible refine wp_condE ?_
       refine ⟨_, rfl, ?_, ?_⟩ <;> (intro hc; (try simp at hc); (all_goals first | (exfalso; omega) | skip))))
  · exact ⟨-1, by simp [pf232], by omega, by omega, fun h => absurd h (by omega)⟩
  · refine wp_loopI (σ := List XVal × List XVal × Int) (fun s => [(0, AV.v k0 (D.sl 3 (List.map XVal.e l)), none), (1, AV.v false (di s.2.2), none), (5, AV.v false (di (s.1.length : Nat)), none)]) (fun s => l = s.1 ++ s.2.1 ∧ 0 ≤ s.2.2 ∧ s.2.2 ≤ left - (l.length : Int) ∧ ctVals s.1 ≤ 31 * (left - (l.length : Int) - s.2.2) + 3 * (s.1.length : Int)) (fun s => s.2.1.length) ([], l, left - (l.length : Int)) (by simp) ⟨rfl, by simp only; omega, by simp only; omega, by simp [ctVals]⟩ ?_
    rintro ⟨pre, rest, lf⟩ ⟨h2, h3, h4, h5⟩
    simp only at h2 h3 h4 h5
    subst h2
    simp only [List.length_append, List.length_cons] at hl h4 h5 g
    rcases rest with _ | ⟨⟨y_Ty, y_N, y_S⟩, rest⟩
    · unfold pl232_0
      repeat' (first
        | with_reducible (first | refine wp_seq ?_ | refine wp_blk ?_ | refine wp_skip ?_ | refine wp_exit ?_ | refine wp_ret ?_ | refine seqQ_norm ?_ | refine seqQ_ret ?_ | refine seqQ_exit ?_ | refine blkQ_norm ?_ | refine blkQ_ret ?_ | refine blkQ_exit ?_ | refine loopQ_norm ?_ | refine loopQ_exit ?_ | refine loopQ_ret ?_ | refine endQ_ret ?_ | refine endQ_norm ?_ | refine endE_ret ?_ | refine endE_norm ?_ | refine endI_ret ?_ | refine endI_norm ?_)
        | (with_reducible refine wp_regK fun K hK => ?_
           simp
           repeat' (with_reducible first | refine hK _ ?_ | (refine psel ?_ ?_ <;> (intro hc; (try rw [Decidable.not_not] at hc); first | (exfalso; omega) | (try simp [hc]))))
           all_goals (clear hK; clear K))
        | (with_reducible refine wp_condE ?_
           refine ⟨_, rfl, ?_, ?_⟩ <;> (intro hc; (try simp at hc); (all_goals first | (exfalso; omega) | skip))))
      simp only [List.length_nil] at h4 h5
      all_goals exact ⟨lf, by simp [pf232], by omega, by omega, fun _ => by simp only [List.append_nil]; omega⟩
    · unfold pl232_0
      simp only [List.length_cons] at hl h4 h5
      have hw : IntKind.wrap .i64 ((pre.length : Int) + 1) = (pre.length : Int) + 1 := wrap_i64 (by omega) (by omega)
      have hap := ctVals_app pre ⟨y_Ty, y_N, y_S⟩
      simp only [ctVal] at hap
      have hd := hok ⟨y_Ty, y_N, y_S⟩ (by simp)
      simp only [XVal.ok, and_assoc] at hd
      obtain ⟨hlo_y_Ty, hhi_y_Ty, hlo_y_N, hhi_y_N, hok_y_S⟩ := hd
      obtain ⟨n1, g1, a1, b1, s1⟩ := t231b y_Ty y_N y_S lf (by omega) (by omega) hok_y_S
      repeat' (first
        | with_reducible (first | refine wp_seq ?_ | refine wp_blk ?_ | refine wp_skip ?_ | refine wp_exit ?_ | refine wp_ret ?_ | refine seqQ_norm ?_ | refine seqQ_ret ?_ | refine seqQ_exit ?_ | refine blkQ_norm ?_ | refine blkQ_ret ?_ | refine blkQ_exit ?_ | refine loopQ_norm ?_ | refine loopQ_exit ?_ | refine loopQ_ret ?_ | refine endQ_ret ?_ | refine endQ_norm ?_ | refine endE_ret ?_ | refine endE_norm ?_ | refine endI_ret ?_ | refine endI_norm ?_)
        | (with_reducible refine wp_regK fun K hK => ?_
           simp[g1, hw]
           repeat' (with_reducible first | refine hK _ ?_ | (refine psel ?_ ?_ <;> (intro hc; (try rw [Decidable.not_not] at hc); first | (exfalso; omega) | (try simp [hc, g1, hw]))))
           all_goals (clear hK; clear K))
        | (with_reducible refine wp_condE ?_
           refine ⟨_, rfl, ?_, ?_⟩ <;> (intro hc; (try simp at hc); (all_goals first | (exfalso; omega) | skip))))
      · exact ⟨-1, by simp [pf232], by omega, by omega, fun h => absurd h (by omega)⟩
      · have hq := s1 (by omega)
        skip
        exact ⟨(pre ++ [⟨y_Ty, y_N, y_S⟩], rest, n1), by simp, ⟨by simp, by simp only; omega, by simp only [List.length_append, List.length_cons]; omega, by simp only [List.length_append, List.length_cons, List.length_nil]; omega⟩, by simp⟩

theorem t225b (k0 : Bool) (x_Id : Int) (x_L : List XVal) (left : Int) (h0 : 0 ≤ left) (h1 : left ≤ 1048576) (hok_x_L : x_L.length ≤ 9223372036854775807) (hoks_x_L : XVal.oks x_L) :
    ∃ n, Gw TT 225 [.st [.ro false (di x_Id), .ro k0 (.sl 3 (x_L.map XVal.e))], vi left] = some (vi n, []) ∧ -1 ≤ n ∧ n ≤ left ∧ (0 ≤ n → ctVals x_L ≤ 31 * (left - n)) := by
  refine Gw_ofI (F := pf225) rfl rfl ?_
  show Wp _ pb225 _ _
  unfold pb225
  have hn_x_L := ctVals_nn x_L
  obtain ⟨n1, g1, a1, b1, s1⟩ := t232b k0 x_L left (by omega) (by omega) hok_x_L hoks_x_L
  repeat' first|with_reducible (first|apply Z1|apply Z2|apply Z3|apply Z4|apply Z5|apply Z6|apply Z7|apply Z8|apply Z9|apply Y1|apply Y2|apply Y3|apply Y4|apply Y5|apply Y6|apply Y7|apply Y8|apply Y9)|(with_reducible refine Xk fun K k=>?_;simp [g1];repeat' (with_reducible first|refine k _ ?_|(refine psel ?_ ?_<;>(intro hc;(try rw [Decidable.not_not] at hc);first|(exfalso;omega)|(try simp [hc, g1]))));all_goals clear k K)|refine Xt rfl ?_|refine Xf rfl ?_|(with_reducible refine wp_condE ?_;refine ⟨_,rfl,?_,?_⟩<;>(intro hc;(try simp at hc);(all_goals first|(exfalso;omega)|skip)))
  · exact ⟨-1, by simp [pf225], by omega, by omega, fun h => absurd h (by omega)⟩
  have q1 := s1 (by omega)
  · exact ⟨n1, by simp [pf225], by omega, by omega, fun _ => by omega⟩

theorem t226b (k0 : Bool) (l : List XRow) (left : Int) (h0 : 0 ≤ left) (h1 : left ≤ 1048576) (hl : l.length ≤ 9223372036854775807) (hok : XRow.oks l) :
    ∃ n, Gw TT 226 [.one (.ro k0 (.sl 2 (l.map XRow.e))), vi left] = some (vi n, []) ∧ -1 ≤ n ∧ n ≤ left ∧ (0 ≤ n → ctRows l ≤ 31 * (left - n)) := by
  refine Gw_ofI (F := pf226) rfl rfl ?_
  show Wp _ pb226 _ _
  unfold pb226
  have g : IntKind.wrap .i64 (left - (l.length : Int)) = left - (l.length : Int) := wrap_i64 (by omega) (by omega)
  repeat' (first
    | with_reducible (first | refine wp_seq ?_ | refine wp_blk ?_ | refine wp_skip ?_ | refine wp_exit ?_ | refine wp_ret ?_ | refine seqQ_norm ?_ | refine seqQ_ret ?_ | refine seqQ_exit ?_ | refine blkQ_norm ?_ | refine blkQ_ret ?_ | refine blkQ_exit ?_ | refine loopQ_norm ?_ | refine loopQ_exit ?_ | refine loopQ_ret ?_ | refine endQ_ret ?_ | refine endQ_norm ?_ | refine endE_ret ?_ | refine endE_norm ?_ | refine endI_ret ?_ | refine endI_norm ?_)
    | (with_reducible refine wp_regK fun K hK => ?_
       simp[g]
       repeat' (with_reducible first | refine hK _ ?_ | (refine psel ?_ ?_ <;> (intro hc; (try rw [Decidable.not_not] at hc); first | (exfalso; omega) | (try simp [hc, g]))))
       all_goals (clear hK; clear K))
    | (with_reducible refine wp_condE ?_
       refine ⟨_, rfl, ?_, ?_⟩ <;> (intro hc; (try simp at hc); (all_goals first | (exfalso; omega) | skip))))
  · exact ⟨-1, by simp [pf226], by omega, by omega, fun h => absurd h (by omega)⟩
  · refine wp_loopI (σ := List XRow × List XRow × Int) (fun s => [(0, AV.v k0 (D.sl 2 (List.map XRow.e l)), none), (1, AV.v false (di s.2.2), none), (5, AV.v false (di (s.1.length : Nat)), none)]) (fun s => l = s.1 ++ s.2.1 ∧ 0 ≤ s.2.2 ∧ s.2.2 ≤ left - (l.length : Int) ∧ ctRows s.1 ≤ 31 * (left - (l.length : Int) - s.2.2) + 1 * (s.1.length : Int)) (fun s => s.2.1.length) ([], l, left - (l.length : Int)) (by simp) ⟨rfl, by simp only; omega, by simp only; omega, by simp [ctRows]⟩ ?_
    rintro ⟨pre, rest, lf⟩ ⟨h2, h3, h4, h5⟩
    simp only at h2 h3 h4 h5
    subst h2
    simp only [List.length_append, List.length_cons] at hl h4 h5 g
    rcases rest with _ | ⟨⟨y_Id, y_L⟩, rest⟩
    · unfold pl226_0
      repeat' (first
        | with_reducible (first | refine wp_seq ?_ | refine wp_blk ?_ | refine wp_skip ?_ | refine wp_exit ?_ | refine wp_ret ?_ | refine seqQ_norm ?_ | refine seqQ_ret ?_ | refine seqQ_exit ?_ | refine blkQ_norm ?_ | refine blkQ_ret ?_ | refine blkQ_exit ?_ | refine loopQ_norm ?_ | refine loopQ_exit ?_ | refine loopQ_ret ?_ | refine endQ_ret ?_ | refine endQ_norm ?_ | refine endE_ret ?_ | refine endE_norm ?_ | refine endI_ret ?_ | refine endI_norm ?_)
        | (with_reducible refine wp_regK fun K hK => ?_
           simp
           repeat' (with_reducible first | refine hK _ ?_ | (refine psel ?_ ?_ <;> (intro hc; (try rw [Decidable.not_not] at hc); first | (exfalso; omega) | (try simp [hc]))))
           all_goals (clear hK; clear K))
        | (with_reducible refine wp_condE ?_
           refine ⟨_, rfl, ?_, ?_⟩ <;> (intro hc; (try simp at hc); (all_goals first | (exfalso; omega) | skip))))
      simp only [List.length_nil] at h4 h5
      all_goals exact ⟨lf, by simp [pf226], by omega, by omega, fun _ => by simp only [List.append_nil]; omega⟩
    · unfold pl226_0
      simp only [List.length_cons] at hl h4 h5
      have hw : IntKind.wrap .i64 ((pre.length : Int) + 1) = (pre.length : Int) + 1 := wrap_i64 (by omega) (by omega)
      have hap := ctRows_app pre ⟨y_Id, y_L⟩
      simp only [ctRow] at hap
      have hd := hok ⟨y_Id, y_L⟩ (by simp)
      simp only [XRow.ok, and_assoc] at hd
      obtain ⟨hlo_y_Id, hhi_y_Id, hok_y_L, hoks_y_L⟩ := hd
      obtain ⟨n1, g1, a1, b1, s1⟩ := t225b k0 y_Id y_L lf (by omega) (by omega) hok_y_L hoks_y_L
      repeat' (first
        | with_reducible (first | refine wp_seq ?_ | refine wp_blk ?_ | refine wp_skip ?_ | refine wp_exit ?_ | refine wp_ret ?_ | refine seqQ_norm ?_ | refine seqQ_ret ?_ | refine seqQ_exit ?_ | refine blkQ_norm ?_ | refine blkQ_ret ?_ | refine blkQ_exit ?_ | refine loopQ_norm ?_ | refine loopQ_exit ?_ | refine loopQ_ret ?_ | refine endQ_ret ?_ | refine endQ_norm ?_ | refine endE_ret ?_ | refine endE_norm ?_ | refine endI_ret ?_ | refine endI_norm ?_)
        | (with_reducible refine wp_regK fun K hK => ?_
           simp[g1, hw]
           repeat' (with_reducible first | refine hK _ ?_ | (refine psel ?_ ?_ <;> (intro hc; (try rw [Decidable.not_not] at hc); first | (exfalso; omega) | (try simp [hc, g1, hw]))))
           all_goals (clear hK; clear K))
        | (with_reducible refine wp_condE ?_
           refine ⟨_, rfl, ?_, ?_⟩ <;> (intro hc; (try simp at hc); (all_goals first | (exfalso; omega) | skip))))
      · exact ⟨-1, by simp [pf226], by omega, by omega, fun h => absurd h (by omega)⟩
      · have hq := s1 (by omega)
        skip
        exact ⟨(pre ++ [⟨y_Id, y_L⟩], rest, n1), by simp, ⟨by simp, by simp only; omega, by simp only [List.length_append, List.length_cons]; omega, by simp only [List.length_append, List.length_cons, List.length_nil]; omega⟩, by simp⟩

theorem t215b (k0 : Bool) (l : List XDead) (left : Int) (h0 : 0 ≤ left) (h1 : left ≤ 1048576) (hl : l.length ≤ 9223372036854775807) :
    ∃ n, Gw TT 215 [.one (.ro k0 (.sl 3 (l.map XDead.e))), vi left] = some (vi n, []) ∧ -1 ≤ n ∧ n ≤ left ∧ (0 ≤ n → ctDeads l ≤ 31 * (left - n)) := by
  refine Gw_ofI (F := pf215) rfl rfl ?_
  show Wp _ pb215 _ _
  unfold pb215
  have g : IntKind.wrap .i64 (left - (l.length : Int)) = left - (l.length : Int) := wrap_i64 (by omega) (by omega)
  repeat' first|with_reducible (first|apply Z1|apply Z2|apply Z3|apply Z4|apply Z5|apply Z6|apply Z7|apply Z8|apply Z9|apply Y1|apply Y2|apply Y3|apply Y4|apply Y5|apply Y6|apply Y7|apply Y8|apply Y9)|(with_reducible refine Xk fun K k=>?_;simp [g];repeat' (with_reducible first|refine k _ ?_|(refine psel ?_ ?_<;>(intro hc;(try rw [Decidable.not_not] at hc);first|(exfalso;omega)|(try simp [hc, g]))));all_goals clear k K)|refine Xt rfl ?_|refine Xf rfl ?_|(with_reducible refine wp_condE ?_;refine ⟨_,rfl,?_,?_⟩<;>(intro hc;(try simp at hc);(all_goals first|(exfalso;omega)|skip)))
  · exact ⟨-1, by simp [pf215], by omega, by omega, fun h => absurd h (by omega)⟩
  · have hq := ctDeads_le l
    exact ⟨left - (l.length : Int), by simp [pf215], by omega, by omega, fun _ => by omega⟩

theorem t223b (k0 : Bool) (l : List XRef) (left : Int) (h0 : 0 ≤ left) (h1 : left ≤ 1048576) (hl : l.length ≤ 9223372036854775807) :
    ∃ n, Gw TT 223 [.one (.ro k0 (.sl 5 (l.map XRef.e))), vi left] = some (vi n, []) ∧ -1 ≤ n ∧ n ≤ left ∧ (0 ≤ n → ctRefs l ≤ 31 * (left - n)) := by
  refine Gw_ofI (F := pf223) rfl rfl ?_
  show Wp _ pb223 _ _
  unfold pb223
  have g : IntKind.wrap .i64 (left - (l.length : Int)) = left - (l.length : Int) := wrap_i64 (by omega) (by omega)
  repeat' first|with_reducible (first|apply Z1|apply Z2|apply Z3|apply Z4|apply Z5|apply Z6|apply Z7|apply Z8|apply Z9|apply Y1|apply Y2|apply Y3|apply Y4|apply Y5|apply Y6|apply Y7|apply Y8|apply Y9)|(with_reducible refine Xk fun K k=>?_;simp [g];repeat' (with_reducible first|refine k _ ?_|(refine psel ?_ ?_<;>(intro hc;(try rw [Decidable.not_not] at hc);first|(exfalso;omega)|(try simp [hc, g]))));all_goals clear k K)|refine Xt rfl ?_|refine Xf rfl ?_|(with_reducible refine wp_condE ?_;refine ⟨_,rfl,?_,?_⟩<;>(intro hc;(try simp at hc);(all_goals first|(exfalso;omega)|skip)))
  · exact ⟨-1, by simp [pf223], by omega, by omega, fun h => absurd h (by omega)⟩
  · have hq := ctRefs_le l
    exact ⟨left - (l.length : Int), by simp [pf223], by omega, by omega, fun _ => by omega⟩

theorem t218b (k0 : Bool) (x_Ver : Int) (x_L : List XRef) (left : Int) (h0 : 0 ≤ left) (h1 : left ≤ 1048576) (hok_x_L : x_L.length ≤ 9223372036854775807) :
    ∃ n, Gw TT 218 [.st [.ro false (di x_Ver), .ro k0 (.sl 5 (x_L.map XRef.e))], vi left] = some (vi n, []) ∧ -1 ≤ n ∧ n ≤ left ∧ (0 ≤ n → ctRefs x_L ≤ 31 * (left - n)) := by
  refine Gw_ofI (F := pf218) rfl rfl ?_
  show Wp _ pb218 _ _
  unfold pb218
  have hn_x_L := ctRefs_nn x_L
  obtain ⟨n1, g1, a1, b1, s1⟩ := t223b k0 x_L left (by omega) (by omega) hok_x_L
  repeat' first|with_reducible (first|apply Z1|apply Z2|apply Z3|apply Z4|apply Z5|apply Z6|apply Z7|apply Z8|apply Z9|apply Y1|apply Y2|apply Y3|apply Y4|apply Y5|apply Y6|apply Y7|apply Y8|apply Y9)|(with_reducible refine Xk fun K k=>?_;simp [g1];repeat' (with_reducible first|refine k _ ?_|(refine psel ?_ ?_<;>(intro hc;(try rw [Decidable.not_not] at hc);first|(exfalso;omega)|(try simp [hc, g1]))));all_goals clear k K)|refine Xt rfl ?_|refine Xf rfl ?_|(with_reducible refine wp_condE ?_;refine ⟨_,rfl,?_,?_⟩<;>(intro hc;(try simp at hc);(all_goals first|(exfalso;omega)|skip)))
  · exact ⟨-1, by simp [pf218], by omega, by omega, fun h => absurd h (by omega)⟩
  have q1 := s1 (by omega)
  · exact ⟨n1, by simp [pf218], by omega, by omega, fun _ => by omega⟩

theorem t227b (k0 : Bool) (x_Ins : Int) (x_L : List XVal) (left : Int) (h0 : 0 ≤ left) (h1 : left ≤ 1048576) (hok_x_L : x_L.length ≤ 9223372036854775807) (hoks_x_L : XVal.oks x_L) :
    ∃ n, Gw TT 227 [.st [.ro false (di x_Ins), .ro k0 (.sl 3 (x_L.map XVal.e))], vi left] = some (vi n, []) ∧ -1 ≤ n ∧ n ≤ left ∧ (0 ≤ n → ctVals x_L ≤ 31 * (left - n)) := by
  refine Gw_ofI (F := pf227) rfl rfl ?_
  show Wp _ pb227 _ _
  unfold pb227
  have hn_x_L := ctVals_nn x_L
  obtain ⟨n1, g1, a1, b1, s1⟩ := t232b k0 x_L left (by omega) (by omega) hok_x_L hoks_x_L
  repeat' first|with_reducible (first|apply Z1|apply Z2|apply Z3|apply Z4|apply Z5|apply Z6|apply Z7|apply Z8|apply Z9|apply Y1|apply Y2|apply Y3|apply Y4|apply Y5|apply Y6|apply Y7|apply Y8|apply Y9)|(with_reducible refine Xk fun K k=>?_;simp [g1];repeat' (with_reducible first|refine k _ ?_|(refine psel ?_ ?_<;>(intro hc;(try rw [Decidable.not_not] at hc);first|(exfalso;omega)|(try simp [hc, g1]))));all_goals clear k K)|refine Xt rfl ?_|refine Xf rfl ?_|(with_reducible refine wp_condE ?_;refine ⟨_,rfl,?_,?_⟩<;>(intro hc;(try simp at hc);(all_goals first|(exfalso;omega)|skip)))
  · exact ⟨-1, by simp [pf227], by omega, by omega, fun h => absurd h (by omega)⟩
  have q1 := s1 (by omega)
  · exact ⟨n1, by simp [pf227], by omega, by omega, fun _ => by omega⟩

theorem t228b (k0 : Bool) (l : List XSlot) (left : Int) (h0 : 0 ≤ left) (h1 : left ≤ 1048576) (hl : l.length ≤ 9223372036854775807) (hok : XSlot.oks l) :
    ∃ n, Gw TT 228 [.one (.ro k0 (.sl 2 (l.map XSlot.e))), vi left] = some (vi n, []) ∧ -1 ≤ n ∧ n ≤ left ∧ (0 ≤ n → ctSlots l ≤ 31 * (left - n)) := by
  refine Gw_ofI (F := pf228) rfl rfl ?_
  show Wp _ pb228 _ _
  unfold pb228
  have g : IntKind.wrap .i64 (left - (l.length : Int)) = left - (l.length : Int) := wrap_i64 (by omega) (by omega)
  repeat' (first
    | with_reducible (first | refine wp_seq ?_ | refine wp_blk ?_ | refine wp_skip ?_ | refine wp_exit ?_ | refine wp_ret ?_ | refine seqQ_norm ?_ | refine seqQ_ret ?_ | refine seqQ_exit ?_ | refine blkQ_norm ?_ | refine blkQ_ret ?_ | refine blkQ_exit ?_ | refine loopQ_norm ?_ | refine loopQ_exit ?_ | refine loopQ_ret ?_ | refine endQ_ret ?_ | refine endQ_norm ?_ | refine endE_ret ?_ | refine endE_norm ?_ | refine endI_ret ?_ | refine endI_norm ?_)
    | (with_reducible refine wp_regK fun K hK => ?_
       simp[g]
       repeat' (with_reducible first | refine hK _ ?_ | (refine psel ?_ ?_ <;> (intro hc; (try rw [Decidable.not_not] at hc); first | (exfalso; omega) | (try simp [hc, g]))))
       all_goals (clear hK; clear K))
    | (with_reducible refine wp_condE ?_
       refine ⟨_, rfl, ?_, ?_⟩ <;> (intro hc; (try simp at hc); (all_goals first | (exfalso; omega) | skip))))
  · exact ⟨-1, by simp [pf228], by omega, by omega, fun h => absurd h (by omega)⟩
  · refine wp_loopI (σ := List XSlot × List XSlot × Int) (fun s => [(0, AV.v k0 (D.sl 2 (List.map XSlot.e l)), none), (1, AV.v false (di s.2.2), none), (5, AV.v false (di (s.1.length : Nat)), none)]) (fun s => l = s.1 ++ s.2.1 ∧ 0 ≤ s.2.2 ∧ s.2.2 ≤ left - (l.length : Int) ∧ ctSlots s.1 ≤ 31 * (left - (l.length : Int) - s.2.2) + 1 * (s.1.length : Int)) (fun s => s.2.1.length) ([], l, left - (l.length : Int)) (by simp) ⟨rfl, by simp only; omega, by simp only; omega, by simp [ctSlots]⟩ ?_
    rintro ⟨pre, rest, lf⟩ ⟨h2, h3, h4, h5⟩
    simp only at h2 h3 h4 h5
    subst h2
    simp only [List.length_append, List.length_cons] at hl h4 h5 g
    rcases rest with _ | ⟨⟨y_Ins, y_L⟩, rest⟩
    · unfold pl228_0
      repeat' (first
        | with_reducible (first | refine wp_seq ?_ | refine wp_blk ?_ | refine wp_skip ?_ | refine wp_exit ?_ | refine wp_ret ?_ | refine seqQ_norm ?_ | refine seqQ_ret ?_ | refine seqQ_exit ?_ | refine blkQ_norm ?_ | refine blkQ_ret ?_ | refine blkQ_exit ?_ | refine loopQ_norm ?_ | refine loopQ_exit ?_ | refine loopQ_ret ?_ | refine endQ_ret ?_ | refine endQ_norm ?_ | refine endE_ret ?_ | refine endE_norm ?_ | refine endI_ret ?_ | refine endI_norm ?_)
        | (with_reducible refine wp_regK fun K hK => ?_
           simp
           repeat' (with_reducible first | refine hK _ ?_ | (refine psel ?_ ?_ <;> (intro hc; (try rw [Decidable.not_not] at hc); first | (exfalso; omega) | (try simp [hc]))))
           all_goals (clear hK; clear K))
        | (with_reducible refine wp_condE ?_
           refine ⟨_, rfl, ?_, ?_⟩ <;> (intro hc; (try simp at hc); (all_goals first | (exfalso; omega) | skip))))
      simp only [List.length_nil] at h4 h5
      all_goals exact ⟨lf, by simp [pf228], by omega, by omega, fun _ => by simp only [List.append_nil]; omega⟩
    · unfold pl228_0
      simp only [List.length_cons] at hl h4 h5
      have hw : IntKind.wrap .i64 ((pre.length : Int) + 1) = (pre.length : Int) + 1 := wrap_i64 (by omega) (by omega)
      have hap := ctSlots_app pre ⟨y_Ins, y_L⟩
      simp only [ctSlot] at hap
      have hd := hok ⟨y_Ins, y_L⟩ (by simp)
      simp only [XSlot.ok, and_assoc] at hd
      obtain ⟨hlo_y_Ins, hhi_y_Ins, hok_y_L, hoks_y_L⟩ := hd
      obtain ⟨n1, g1, a1, b1, s1⟩ := t227b k0 y_Ins y_L lf (by omega) (by omega) hok_y_L hoks_y_L
      repeat' (first
        | with_reducible (first | refine wp_seq ?_ | refine wp_blk ?_ | refine wp_skip ?_ | refine wp_exit ?_ | refine wp_ret ?_ | refine seqQ_norm ?_ | refine seqQ_ret ?_ | refine seqQ_exit ?_ | refine blkQ_norm ?_ | refine blkQ_ret ?_ | refine blkQ_exit ?_ | refine loopQ_norm ?_ | refine loopQ_exit ?_ | refine loopQ_ret ?_ | refine endQ_ret ?_ | refine endQ_norm ?_ | refine endE_ret ?_ | refine endE_norm ?_ | refine endI_ret ?_ | refine endI_norm ?_)
        | (with_reducible refine wp_regK fun K hK => ?_
           simp[g1, hw]
           repeat' (with_reducible first | refine hK _ ?_ | (refine psel ?_ ?_ <;> (intro hc; (try rw [Decidable.not_not] at hc); first | (exfalso; omega) | (try simp [hc, g1, hw]))))
           all_goals (clear hK; clear K))
        | (with_reducible refine wp_condE ?_
           refine ⟨_, rfl, ?_, ?_⟩ <;> (intro hc; (try simp at hc); (all_goals first | (exfalso; omega) | skip))))
      · exact ⟨-1, by simp [pf228], by omega, by omega, fun h => absurd h (by omega)⟩
      · have hq := s1 (by omega)
        skip
        exact ⟨(pre ++ [⟨y_Ins, y_L⟩], rest, n1), by simp, ⟨by simp, by simp only; omega, by simp only [List.length_append, List.length_cons]; omega, by simp only [List.length_append, List.length_cons, List.length_nil]; omega⟩, by simp⟩

theorem t213b (k0 : Bool) (x_Next : Int) (x_L : List XSlot) (left : Int) (h0 : 0 ≤ left) (h1 : left ≤ 1048576) (hok_x_L : x_L.length ≤ 9223372036854775807) (hoks_x_L : XSlot.oks x_L) :
    ∃ n, Gw TT 213 [.st [.ro false (di x_Next), .ro k0 (.sl 2 (x_L.map XSlot.e))], vi left] = some (vi n, []) ∧ -1 ≤ n ∧ n ≤ left ∧ (0 ≤ n → ctSlots x_L ≤ 31 * (left - n)) := by
  refine Gw_ofI (F := pf213) rfl rfl ?_
  show Wp _ pb213 _ _
  unfold pb213
  have hn_x_L := ctSlots_nn x_L
  obtain ⟨n1, g1, a1, b1, s1⟩ := t228b k0 x_L left (by omega) (by omega) hok_x_L hoks_x_L
  repeat' first|with_reducible (first|apply Z1|apply Z2|apply Z3|apply Z4|apply Z5|apply Z6|apply Z7|apply Z8|apply Z9|apply Y1|apply Y2|apply Y3|apply Y4|apply Y5|apply Y6|apply Y7|apply Y8|apply Y9)|(with_reducible refine Xk fun K k=>?_;simp [g1];repeat' (with_reducible first|refine k _ ?_|(refine psel ?_ ?_<;>(intro hc;(try rw [Decidable.not_not] at hc);first|(exfalso;omega)|(try simp [hc, g1]))));all_goals clear k K)|refine Xt rfl ?_|refine Xf rfl ?_|(with_reducible refine wp_condE ?_;refine ⟨_,rfl,?_,?_⟩<;>(intro hc;(try simp at hc);(all_goals first|(exfalso;omega)|skip)))
  · exact ⟨-1, by simp [pf213], by omega, by omega, fun h => absurd h (by omega)⟩
  have q1 := s1 (by omega)
  · exact ⟨n1, by simp [pf213], by omega, by omega, fun _ => by omega⟩

theorem t210b (k0 : Bool) (x_Gen : Int) (x_Kind : Int) (x_C_Next : Int) (x_C_L : List XSlot) (x_G : List Int) (left : Int) (h0 : 0 ≤ left) (h1 : left ≤ 1048576) (hok_x_C_L : x_C_L.length ≤ 9223372036854775807) (hoks_x_C_L : XSlot.oks x_C_L) (hok_x_G : x_G.length ≤ 9223372036854775807) :
    ∃ n, Gw TT 210 [.st [.ro false (di x_Gen), .ro false (di x_Kind), .ro false (di x_C_Next), .ro k0 (.sl 2 (x_C_L.map XSlot.e)), .ro k0 (.sl 1 (x_G.map eb))], vi left] = some (vi n, []) ∧ -1 ≤ n ∧ n ≤ left ∧ (0 ≤ n → ctSlots x_C_L + ctBytes x_G ≤ 31 * (left - n)) := by
  refine Gw_ofI (F := pf210) rfl rfl ?_
  show Wp _ pb210 _ _
  unfold pb210
  have hn_x_C_L := ctSlots_nn x_C_L
  have hn_x_G := ctBytes_nn x_G
  obtain ⟨n1, g1, a1, b1, s1⟩ := t213b k0 x_C_Next x_C_L left (by omega) (by omega) hok_x_C_L hoks_x_C_L
  repeat' (first
    | with_reducible (first | refine wp_seq ?_ | refine wp_blk ?_ | refine wp_skip ?_ | refine wp_exit ?_ | refine wp_ret ?_ | refine seqQ_norm ?_ | refine seqQ_ret ?_ | refine seqQ_exit ?_ | refine blkQ_norm ?_ | refine blkQ_ret ?_ | refine blkQ_exit ?_ | refine loopQ_norm ?_ | refine loopQ_exit ?_ | refine loopQ_ret ?_ | refine endQ_ret ?_ | refine endQ_norm ?_ | refine endE_ret ?_ | refine endE_norm ?_ | refine endI_ret ?_ | refine endI_norm ?_)
    | (with_reducible refine wp_regK fun K hK => ?_
       simp[g1]
       repeat' (with_reducible first | refine hK _ ?_ | (refine psel ?_ ?_ <;> (intro hc; (try rw [Decidable.not_not] at hc); first | (exfalso; omega) | (try simp [hc, g1]))))
       all_goals (clear hK; clear K))
    | (with_reducible refine wp_condE ?_
       refine ⟨_, rfl, ?_, ?_⟩ <;> (intro hc; (try simp at hc); (all_goals first | (exfalso; omega) | skip))))
  · exact ⟨-1, by simp [pf210], by omega, by omega, fun h => absurd h (by omega)⟩
  have q1 := s1 (by omega)
  obtain ⟨n2, g2, a2, b2, s2⟩ := t212b k0 x_G n1 (by omega) (by omega) hok_x_G
  repeat' (first
    | with_reducible (first | refine wp_seq ?_ | refine wp_blk ?_ | refine wp_skip ?_ | refine wp_exit ?_ | refine wp_ret ?_ | refine seqQ_norm ?_ | refine seqQ_ret ?_ | refine seqQ_exit ?_ | refine blkQ_norm ?_ | refine blkQ_ret ?_ | refine blkQ_exit ?_ | refine loopQ_norm ?_ | refine loopQ_exit ?_ | refine loopQ_ret ?_ | refine endQ_ret ?_ | refine endQ_norm ?_ | refine endE_ret ?_ | refine endE_norm ?_ | refine endI_ret ?_ | refine endI_norm ?_)
    | (with_reducible refine wp_regK fun K hK => ?_
       simp[g2]
       repeat' (with_reducible first | refine hK _ ?_ | (refine psel ?_ ?_ <;> (intro hc; (try rw [Decidable.not_not] at hc); first | (exfalso; omega) | (try simp [hc, g2]))))
       all_goals (clear hK; clear K))
    | (with_reducible refine wp_condE ?_
       refine ⟨_, rfl, ?_, ?_⟩ <;> (intro hc; (try simp at hc); (all_goals first | (exfalso; omega) | skip))))
  · exact ⟨-1, by simp [pf210], by omega, by omega, fun h => absurd h (by omega)⟩
  have q2 := s2 (by omega)
  · exact ⟨n2, by simp [pf210], by omega, by omega, fun _ => by omega⟩

theorem t211b (k0 : Bool) (l : List XBuf) (left : Int) (h0 : 0 ≤ left) (h1 : left ≤ 1048576) (hl : l.length ≤ 9223372036854775807) (hok : XBuf.oks l) :
    ∃ n, Gw TT 211 [.one (.ro k0 (.sl 5 (l.map XBuf.e))), vi left] = some (vi n, []) ∧ -1 ≤ n ∧ n ≤ left ∧ (0 ≤ n → ctBufs l ≤ 31 * (left - n)) := by
  refine Gw_ofI (F := pf211) rfl rfl ?_
  show Wp _ pb211 _ _
  unfold pb211
  have g : IntKind.wrap .i64 (left - (l.length : Int)) = left - (l.length : Int) := wrap_i64 (by omega) (by omega)
  repeat' (first
    | with_reducible (first | refine wp_seq ?_ | refine wp_blk ?_ | refine wp_skip ?_ | refine wp_exit ?_ | refine wp_ret ?_ | refine seqQ_norm ?_ | refine seqQ_ret ?_ | refine seqQ_exit ?_ | refine blkQ_norm ?_ | refine blkQ_ret ?_ | refine blkQ_exit ?_ | refine loopQ_norm ?_ | refine loopQ_exit ?_ | refine loopQ_ret ?_ | refine endQ_ret ?_ | refine endQ_norm ?_ | refine endE_ret ?_ | refine endE_norm ?_ | refine endI_ret ?_ | refine endI_norm ?_)
    | (with_reducible refine wp_regK fun K hK => ?_
       simp[g]
       repeat' (with_reducible first | refine hK _ ?_ | (refine psel ?_ ?_ <;> (intro hc; (try rw [Decidable.not_not] at hc); first | (exfalso; omega) | (try simp [hc, g]))))
       all_goals (clear hK; clear K))
    | (with_reducible refine wp_condE ?_
       refine ⟨_, rfl, ?_, ?_⟩ <;> (intro hc; (try simp at hc); (all_goals first | (exfalso; omega) | skip))))
  · exact ⟨-1, by simp [pf211], by omega, by omega, fun h => absurd h (by omega)⟩
  · refine wp_loopI (σ := List XBuf × List XBuf × Int) (fun s => [(0, AV.v k0 (D.sl 5 (List.map XBuf.e l)), none), (1, AV.v false (di s.2.2), none), (5, AV.v false (di (s.1.length : Nat)), none)]) (fun s => l = s.1 ++ s.2.1 ∧ 0 ≤ s.2.2 ∧ s.2.2 ≤ left - (l.length : Int) ∧ ctBufs s.1 ≤ 31 * (left - (l.length : Int) - s.2.2) + 3 * (s.1.length : Int)) (fun s => s.2.1.length) ([], l, left - (l.length : Int)) (by simp) ⟨rfl, by simp only; omega, by simp only; omega, by simp [ctBufs]⟩ ?_
    rintro ⟨pre, rest, lf⟩ ⟨h2, h3, h4, h5⟩
    simp only at h2 h3 h4 h5
    subst h2
    simp only [List.length_append, List.length_cons] at hl h4 h5 g
    rcases rest with _ | ⟨⟨y_Gen, y_Kind, ⟨y_C_Next, y_C_L⟩, y_G⟩, rest⟩
    · unfold pl211_0
      repeat' (first
        | with_reducible (first | refine wp_seq ?_ | refine wp_blk ?_ | refine wp_skip ?_ | refine wp_exit ?_ | refine wp_ret ?_ | refine seqQ_norm ?_ | refine seqQ_ret ?_ | refine seqQ_exit ?_ | refine blkQ_norm ?_ | refine blkQ_ret ?_ | refine blkQ_exit ?_ | refine loopQ_norm ?_ | refine loopQ_exit ?_ | refine loopQ_ret ?_ | refine endQ_ret ?_ | refine endQ_norm ?_ | refine endE_ret ?_ | refine endE_norm ?_ | refine endI_ret ?_ | refine endI_norm ?_)
        | (with_reducible refine wp_regK fun K hK => ?_
           simp
           repeat' (with_reducible first | refine hK _ ?_ | (refine psel ?_ ?_ <;> (intro hc; (try rw [Decidable.not_not] at hc); first | (exfalso; omega) | (try simp [hc]))))
           all_goals (clear hK; clear K))
        | (with_reducible refine wp_condE ?_
           refine ⟨_, rfl, ?_, ?_⟩ <;> (intro hc; (try simp at hc); (all_goals first | (exfalso; omega) | skip))))
      simp only [List.length_nil] at h4 h5
      all_goals exact ⟨lf, by simp [pf211], by omega, by omega, fun _ => by simp only [List.append_nil]; omega⟩
    · unfold pl211_0
      simp only [List.length_cons] at hl h4 h5
      have hw : IntKind.wrap .i64 ((pre.length : Int) + 1) = (pre.length : Int) + 1 := wrap_i64 (by omega) (by omega)
      have hap := ctBufs_app pre ⟨y_Gen, y_Kind, ⟨y_C_Next, y_C_L⟩, y_G⟩
      simp only [ctBuf] at hap
      have hd := hok ⟨y_Gen, y_Kind, ⟨y_C_Next, y_C_L⟩, y_G⟩ (by simp)
      simp only [XBuf.ok, XChunk.ok, and_assoc] at hd
      obtain ⟨hlo_y_Gen, hhi_y_Gen, hlo_y_Kind, hhi_y_Kind, hlo_y_C_Next, hhi_y_C_Next, hok_y_C_L, hoks_y_C_L, hok_y_G, hoki_y_G⟩ := hd
      obtain ⟨n1, g1, a1, b1, s1⟩ := t210b k0 y_Gen y_Kind y_C_Next y_C_L y_G lf (by omega) (by omega) hok_y_C_L hoks_y_C_L hok_y_G
      repeat' (first
        | with_reducible (first | refine wp_seq ?_ | refine wp_blk ?_ | refine wp_skip ?_ | refine wp_exit ?_ | refine wp_ret ?_ | refine seqQ_norm ?_ | refine seqQ_ret ?_ | refine seqQ_exit ?_ | refine blkQ_norm ?_ | refine blkQ_ret ?_ | refine blkQ_exit ?_ | refine loopQ_norm ?_ | refine loopQ_exit ?_ | refine loopQ_ret ?_ | refine endQ_ret ?_ | refine endQ_norm ?_ | refine endE_ret ?_ | refine endE_norm ?_ | refine endI_ret ?_ | refine endI_norm ?_)
        | (with_reducible refine wp_regK fun K hK => ?_
           simp[g1, hw]
           repeat' (with_reducible first | refine hK _ ?_ | (refine psel ?_ ?_ <;> (intro hc; (try rw [Decidable.not_not] at hc); first | (exfalso; omega) | (try simp [hc, g1, hw]))))
           all_goals (clear hK; clear K))
        | (with_reducible refine wp_condE ?_
           refine ⟨_, rfl, ?_, ?_⟩ <;> (intro hc; (try simp at hc); (all_goals first | (exfalso; omega) | skip))))
      · exact ⟨-1, by simp [pf211], by omega, by omega, fun h => absurd h (by omega)⟩
      · have hq := s1 (by omega)
        skip
        exact ⟨(pre ++ [⟨y_Gen, y_Kind, ⟨y_C_Next, y_C_L⟩, y_G⟩], rest, n1), by simp, ⟨by simp, by simp only; omega, by simp only [List.length_append, List.length_cons]; omega, by simp only [List.length_append, List.length_cons, List.length_nil]; omega⟩, by simp⟩

theorem t214b (k0 : Bool) (x_Cols : List Int) (x_Slots : Int) (x_Bufs : Int) (left : Int) (h0 : 0 ≤ left) (h1 : left ≤ 1048576) (hok_x_Cols : x_Cols.length ≤ 9223372036854775807) :
    ∃ n, Gw TT 214 [.st [.ro k0 (.sl 1 (x_Cols.map ei)), .ro false (di x_Slots), .ro false (di x_Bufs)], vi left] = some (vi n, []) ∧ -1 ≤ n ∧ n ≤ left ∧ (0 ≤ n → ctInts x_Cols ≤ 31 * (left - n)) := by
  refine Gw_ofI (F := pf214) rfl rfl ?_
  show Wp _ pb214 _ _
  unfold pb214
  have hn_x_Cols := ctInts_nn x_Cols
  obtain ⟨n1, g1, a1, b1, s1⟩ := t219b k0 x_Cols left (by omega) (by omega) hok_x_Cols
  repeat' first|with_reducible (first|apply Z1|apply Z2|apply Z3|apply Z4|apply Z5|apply Z6|apply Z7|apply Z8|apply Z9|apply Y1|apply Y2|apply Y3|apply Y4|apply Y5|apply Y6|apply Y7|apply Y8|apply Y9)|(with_reducible refine Xk fun K k=>?_;simp [g1];repeat' (with_reducible first|refine k _ ?_|(refine psel ?_ ?_<;>(intro hc;(try rw [Decidable.not_not] at hc);first|(exfalso;omega)|(try simp [hc, g1]))));all_goals clear k K)|refine Xt rfl ?_|refine Xf rfl ?_|(with_reducible refine wp_condE ?_;refine ⟨_,rfl,?_,?_⟩<;>(intro hc;(try simp at hc);(all_goals first|(exfalso;omega)|skip)))
  · exact ⟨-1, by simp [pf214], by omega, by omega, fun h => absurd h (by omega)⟩
  have q1 := s1 (by omega)
  · exact ⟨n1, by simp [pf214], by omega, by omega, fun _ => by omega⟩

def SzbPred (x : XPred) : Prop := ∀ (k0 : Bool) (left : Int), 0 ≤ left → left ≤ 1048576 → x.ok → ∃ n, Gw TT 220 [.st [.ro false (di x.Kind), .ro false (di x.Col), .ro false (di x.Op), .ro false (di x.V.Ty), .ro false (di x.V.N), .ro false (.str x.V.S), .ro k0 (.sl 7 (x.L.map XPred.e))], vi left] = some (vi n, []) ∧ -1 ≤ n ∧ n ≤ left ∧ (0 ≤ n → ctPreds x.L ≤ 31 * (left - n))

def SzbPreds (l : List XPred) : Prop := ∀ (k0 : Bool) (left : Int), 0 ≤ left → left ≤ 1048576 → l.length ≤ 9223372036854775807 → XPred.oks l →
    ∃ n, Gw TT 221 [.one (.ro k0 (.sl 7 (l.map XPred.e))), vi left] = some (vi n, []) ∧ -1 ≤ n ∧ n ≤ left ∧ (0 ≤ n → ctPreds l ≤ 31 * (left - n))

theorem SzbPreds_of (l : List XPred) (IH : ∀ y ∈ l, SzbPred y) : SzbPreds l := by
  intro k0 left h0 h1 hl hok
  refine Gw_ofI (F := pf221) rfl rfl ?_
  show Wp _ pb221 _ _
  unfold pb221
  have g : IntKind.wrap .i64 (left - (l.length : Int)) = left - (l.length : Int) := wrap_i64 (by omega) (by omega)
  repeat' (first
    | with_reducible (first | refine wp_seq ?_ | refine wp_blk ?_ | refine wp_skip ?_ | refine wp_exit ?_ | refine wp_ret ?_ | refine seqQ_norm ?_ | refine seqQ_ret ?_ | refine seqQ_exit ?_ | refine blkQ_norm ?_ | refine blkQ_ret ?_ | refine blkQ_exit ?_ | refine loopQ_norm ?_ | refine loopQ_exit ?_ | refine loopQ_ret ?_ | refine endQ_ret ?_ | refine endQ_norm ?_ | refine endE_ret ?_ | refine endE_norm ?_ | refine endI_ret ?_ | refine endI_norm ?_)
    | (with_reducible refine wp_regK fun K hK => ?_
       simp[g]
       repeat' (with_reducible first | refine hK _ ?_ | (refine psel ?_ ?_ <;> (intro hc; (try rw [Decidable.not_not] at hc); first | (exfalso; omega) | (try simp [hc, g]))))
       all_goals (clear hK; clear K))
    | (with_reducible refine wp_condE ?_
       refine ⟨_, rfl, ?_, ?_⟩ <;> (intro hc; (try simp at hc); (all_goals first | (exfalso; omega) | skip))))
  · exact ⟨-1, by simp [pf221], by omega, by omega, fun h => absurd h (by omega)⟩
  · refine wp_loopI (σ := List XPred × List XPred × Int) (fun s => [(0, AV.v k0 (D.sl 7 (List.map XPred.e l)), none), (1, AV.v false (di s.2.2), none), (5, AV.v false (di (s.1.length : Nat)), none)]) (fun s => l = s.1 ++ s.2.1 ∧ 0 ≤ s.2.2 ∧ s.2.2 ≤ left - (l.length : Int) ∧ ctPreds s.1 ≤ 31 * (left - (l.length : Int) - s.2.2) + 6 * (s.1.length : Int)) (fun s => s.2.1.length) ([], l, left - (l.length : Int)) (by simp) ⟨rfl, by simp only; omega, by simp only; omega, by simp [ctPreds]⟩ ?_
    rintro ⟨pre, rest, lf⟩ ⟨h2, h3, h4, h5⟩
    simp only at h2 h3 h4 h5
    subst h2
    simp only [List.length_append, List.length_cons] at hl h4 h5 g
    rcases rest with _ | ⟨⟨y_Kind, y_Col, y_Op, ⟨y_V_Ty, y_V_N, y_V_S⟩, y_L⟩, rest⟩
    · unfold pl221_0
      repeat' (first
        | with_reducible (first | refine wp_seq ?_ | refine wp_blk ?_ | refine wp_skip ?_ | refine wp_exit ?_ | refine wp_ret ?_ | refine seqQ_norm ?_ | refine seqQ_ret ?_ | refine seqQ_exit ?_ | refine blkQ_norm ?_ | refine blkQ_ret ?_ | refine blkQ_exit ?_ | refine loopQ_norm ?_ | refine loopQ_exit ?_ | refine loopQ_ret ?_ | refine endQ_ret ?_ | refine endQ_norm ?_ | refine endE_ret ?_ | refine endE_norm ?_ | refine endI_ret ?_ | refine endI_norm ?_)
        | (with_reducible refine wp_regK fun K hK => ?_
           simp
           repeat' (with_reducible first | refine hK _ ?_ | (refine psel ?_ ?_ <;> (intro hc; (try rw [Decidable.not_not] at hc); first | (exfalso; omega) | (try simp [hc]))))
           all_goals (clear hK; clear K))
        | (with_reducible refine wp_condE ?_
           refine ⟨_, rfl, ?_, ?_⟩ <;> (intro hc; (try simp at hc); (all_goals first | (exfalso; omega) | skip))))
      simp only [List.length_nil] at h4 h5
      all_goals exact ⟨lf, by simp [pf221], by omega, by omega, fun _ => by simp only [List.append_nil]; omega⟩
    · unfold pl221_0
      simp only [List.length_cons] at hl h4 h5
      have hw : IntKind.wrap .i64 ((pre.length : Int) + 1) = (pre.length : Int) + 1 := wrap_i64 (by omega) (by omega)
      have hap := ctPreds_app pre ⟨y_Kind, y_Col, y_Op, ⟨y_V_Ty, y_V_N, y_V_S⟩, y_L⟩
      simp only [ctPred] at hap
      obtain ⟨n1, g1, a1, b1, s1⟩ := IH ⟨y_Kind, y_Col, y_Op, ⟨y_V_Ty, y_V_N, y_V_S⟩, y_L⟩ (by simp) k0 lf (by omega) (by omega) (XPred.oks_mem hok ⟨y_Kind, y_Col, y_Op, ⟨y_V_Ty, y_V_N, y_V_S⟩, y_L⟩ (by simp))
      simp only at g1
      repeat' (first
        | with_reducible (first | refine wp_seq ?_ | refine wp_blk ?_ | refine wp_skip ?_ | refine wp_exit ?_ | refine wp_ret ?_ | refine seqQ_norm ?_ | refine seqQ_ret ?_ | refine seqQ_exit ?_ | refine blkQ_norm ?_ | refine blkQ_ret ?_ | refine blkQ_exit ?_ | refine loopQ_norm ?_ | refine loopQ_exit ?_ | refine loopQ_ret ?_ | refine endQ_ret ?_ | refine endQ_norm ?_ | refine endE_ret ?_ | refine endE_norm ?_ | refine endI_ret ?_ | refine endI_norm ?_)
        | (with_reducible refine wp_regK fun K hK => ?_
           simp[g1, hw]
           repeat' (with_reducible first | refine hK _ ?_ | (refine psel ?_ ?_ <;> (intro hc; (try rw [Decidable.not_not] at hc); first | (exfalso; omega) | (try simp [hc, g1, hw]))))
           all_goals (clear hK; clear K))
        | (with_reducible refine wp_condE ?_
           refine ⟨_, rfl, ?_, ?_⟩ <;> (intro hc; (try simp at hc); (all_goals first | (exfalso; omega) | skip))))
      · exact ⟨-1, by simp [pf221], by omega, by omega, fun h => absurd h (by omega)⟩
      · have hq := s1 (by omega)
        simp only at hq
        exact ⟨(pre ++ [⟨y_Kind, y_Col, y_Op, ⟨y_V_Ty, y_V_N, y_V_S⟩, y_L⟩], rest, n1), by simp, ⟨by simp, by simp only; omega, by simp only [List.length_append, List.length_cons]; omega, by simp only [List.length_append, List.length_cons, List.length_nil]; omega⟩, by simp⟩

theorem SzbPred_raw (x : XPred) (IH : SzbPreds x.L) (k0 : Bool) (left : Int) (h0 : 0 ≤ left) (h1 : left ≤ 1048576) (hv : x.V.S.size ≤ 9223372036854775807) (hL : x.L.length ≤ 9223372036854775807) (hs : XPred.oks x.L) :
    ∃ n, Gw TT 220 [.st [.ro false (di x.Kind), .ro false (di x.Col), .ro false (di x.Op), .ro false (di x.V.Ty), .ro false (di x.V.N), .ro false (.str x.V.S), .ro k0 (.sl 7 (x.L.map XPred.e))], vi left] = some (vi n, []) ∧ -1 ≤ n ∧ n ≤ left ∧ (0 ≤ n → ctPreds x.L ≤ 31 * (left - n)) := by
  obtain ⟨x_Kind, x_Col, x_Op, ⟨x_V_Ty, x_V_N, x_V_S⟩, x_L⟩ := x
  have hok_x_V_S := hv
  have hok_x_L := hL
  have hoks_x_L := hs
  simp only at hok_x_V_S hok_x_L hoks_x_L IH
  refine Gw_ofI (F := pf220) rfl rfl ?_
  show Wp _ pb220 _ _
  unfold pb220
  have hn_x_L := ctPreds_nn x_L
  obtain ⟨n1, g1, a1, b1, s1⟩ := t231b x_V_Ty x_V_N x_V_S left (by omega) (by omega) hok_x_V_S
  repeat' (first
    | with_reducible (first | refine wp_seq ?_ | refine wp_blk ?_ | refine wp_skip ?_ | refine wp_exit ?_ | refine wp_ret ?_ | refine seqQ_norm ?_ | refine seqQ_ret ?_ | refine seqQ_exit ?_ | refine blkQ_norm ?_ | refine blkQ_ret ?_ | refine blkQ_exit ?_ | refine loopQ_norm ?_ | refine loopQ_exit ?_ | refine loopQ_ret ?_ | refine endQ_ret ?_ | refine endQ_norm ?_ | refine endE_ret ?_ | refine endE_norm ?_ | refine endI_ret ?_ | refine endI_norm ?_)
    | (with_reducible refine wp_regK fun K hK => ?_
       simp[g1]
       repeat' (with_reducible first | refine hK _ ?_ | (refine psel ?_ ?_ <;> (intro hc; (try rw [Decidable.not_not] at hc); first | (exfalso; omega) | (try simp [hc, g1]))))
       all_goals (clear hK; clear K))
    | (with_reducible refine wp_condE ?_
       refine ⟨_, rfl, ?_, ?_⟩ <;> (intro hc; (try simp at hc); (all_goals first | (exfalso; omega) | skip))))
  · exact ⟨-1, by simp [pf220], by omega, by omega, fun h => absurd h (by omega)⟩
  have q1 := s1 (by omega)
  obtain ⟨n2, g2, a2, b2, s2⟩ := IH k0 n1 (by omega) (by omega) hok_x_L hoks_x_L
  try simp only at g2
  repeat' (first
    | with_reducible (first | refine wp_seq ?_ | refine wp_blk ?_ | refine wp_skip ?_ | refine wp_exit ?_ | refine wp_ret ?_ | refine seqQ_norm ?_ | refine seqQ_ret ?_ | refine seqQ_exit ?_ | refine blkQ_norm ?_ | refine blkQ_ret ?_ | refine blkQ_exit ?_ | refine loopQ_norm ?_ | refine loopQ_exit ?_ | refine loopQ_ret ?_ | refine endQ_ret ?_ | refine endQ_norm ?_ | refine endE_ret ?_ | refine endE_norm ?_ | refine endI_ret ?_ | refine endI_norm ?_)
    | (with_reducible refine wp_regK fun K hK => ?_
       simp[g2]
       repeat' (with_reducible first | refine hK _ ?_ | (refine psel ?_ ?_ <;> (intro hc; (try rw [Decidable.not_not] at hc); first | (exfalso; omega) | (try simp [hc, g2]))))
       all_goals (clear hK; clear K))
    | (with_reducible refine wp_condE ?_
       refine ⟨_, rfl, ?_, ?_⟩ <;> (intro hc; (try simp at hc); (all_goals first | (exfalso; omega) | skip))))
  · exact ⟨-1, by simp [pf220], by omega, by omega, fun h => absurd h (by omega)⟩
  have q2 := s2 (by omega)
  · exact ⟨n2, by simp [pf220], by omega, by omega, fun _ => by simp only; omega⟩

theorem SzbPred_of (x : XPred) (IH : SzbPreds x.L) : SzbPred x := by
  intro k0 left h0 h1 hx
  obtain ⟨x_Kind, x_Col, x_Op, ⟨x_V_Ty, x_V_N, x_V_S⟩, x_L⟩ := x
  simp only [XPred.ok_eq, XVal.ok, and_assoc] at hx
  obtain ⟨_, _, _, _, _, _, _, _, _, _, hok_x_V_S, hok_x_L, hoks_x_L⟩ := hx
  exact SzbPred_raw _ IH k0 left h0 h1 hok_x_V_S hok_x_L hoks_x_L

theorem SzbPred_all (x : XPred) : SzbPred x :=
  SzbPred_of x (SzbPreds_of x.L fun y hy => SzbPred_all y)
termination_by SizeOf.sizeOf x
decreasing_by
  have h1 := List.sizeOf_lt_of_mem hy
  have h2 : SizeOf.sizeOf x.L < SizeOf.sizeOf x := by cases x; simp; omega
  omega

theorem t220b (k0 : Bool) (x_Kind : Int) (x_Col : Int) (x_Op : Int) (x_V_Ty : Int) (x_V_N : Int) (x_V_S : ByteArray) (x_L : List XPred) (left : Int) (h0 : 0 ≤ left) (h1 : left ≤ 1048576) (hok_x_V_S : x_V_S.size ≤ 9223372036854775807) (hok_x_L : x_L.length ≤ 9223372036854775807) (hoks_x_L : XPred.oks x_L) :
    ∃ n, Gw TT 220 [.st [.ro false (di x_Kind), .ro false (di x_Col), .ro false (di x_Op), .ro false (di x_V_Ty), .ro false (di x_V_N), .ro false (.str x_V_S), .ro k0 (.sl 7 (x_L.map XPred.e))], vi left] = some (vi n, []) ∧ -1 ≤ n ∧ n ≤ left ∧ (0 ≤ n → ctPreds x_L ≤ 31 * (left - n)) :=
  SzbPred_raw ⟨x_Kind, x_Col, x_Op, ⟨x_V_Ty, x_V_N, x_V_S⟩, x_L⟩ (SzbPreds_of x_L fun y _ => SzbPred_all y) k0 left h0 h1 hok_x_V_S hok_x_L hoks_x_L

end Go.Proofs.YtcgekefbkccelaaGreat.OM
