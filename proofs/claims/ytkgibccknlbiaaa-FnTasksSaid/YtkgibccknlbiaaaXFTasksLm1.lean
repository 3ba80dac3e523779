/- What the functions answer. -/
import Derived.Test.YtkgibccknlbiaaaXFTasksLm0
set_option linter.all false
namespace Go.Proofs.Ytkgibccknlbiaaa.OM
set_option maxHeartbeats 4000000
set_option maxRecDepth 100000

theorem d373_ex (c : XCur)  : ∃ r : (XTask × Int) × XCur, Gw TT 373 [.ptr [.ro false (.sl 1 (c.b.map eb)), .ro false (di (c.i : Nat)), .ro false (di c.h)]] = some (.tup [.st [.ro false (di r.1.1.Op), .ro false (di r.1.1.Pc), .ro false (di r.1.1.H), .own (.sl 3 (r.1.1.R.map XVal.e)), .ro false (di r.1.1.Id), .ro false (di r.1.1.Q.Kind), .ro false (di r.1.1.Q.P.Kind), .ro false (di r.1.1.Q.P.Col), .ro false (di r.1.1.Q.P.Op), .ro false (di r.1.1.Q.P.V.Ty), .ro false (di r.1.1.Q.P.V.N), .ro false (.str r.1.1.Q.P.V.S), .own (.sl 7 (r.1.1.Q.P.L.map XPred.e)), .ro false (di r.1.1.Q.Col), .own (.sl 1 (r.1.1.Q.Out.map ei)), .ro false (di r.1.1.Ts), .ro false (di r.1.1.Ver), .own (.sl 5 (r.1.1.L.map XRef.e)), .ro false (di r.1.1.I), .ro false (di r.1.1.J), .ro false (di r.1.1.S), .ro false (di r.1.1.At), .ro false (di r.1.1.Own), .ro false (.bool r.1.1.Won), .own (.sl 2 (r.1.1.Got.map XRow.e))], vi r.1.2], [(0, 0, .ro false (.sl 1 (r.2.b.map eb))), (0, 1, .ro false (di (r.2.i : Nat))), (0, 2, .ro false (di r.2.h))]) ∧ (r.1.1.R.length ≤ 1000 ∧ XVal.sms r.1.1.R ∧ XQuery.sm r.1.1.Q ∧ r.1.1.L.length ≤ 5 ∧ r.1.1.Got = []) := by
  suffices h0 : ∃ y, Gw TT 373 [.ptr [.ro false (.sl 1 (c.b.map eb)), .ro false (di (c.i : Nat)), .ro false (di c.h)]] = some y ∧ ∃ r : (XTask × Int) × XCur, y = (.tup [.st [.ro false (di r.1.1.Op), .ro false (di r.1.1.Pc), .ro false (di r.1.1.H), .own (.sl 3 (r.1.1.R.map XVal.e)), .ro false (di r.1.1.Id), .ro false (di r.1.1.Q.Kind), .ro false (di r.1.1.Q.P.Kind), .ro false (di r.1.1.Q.P.Col), .ro false (di r.1.1.Q.P.Op), .ro false (di r.1.1.Q.P.V.Ty), .ro false (di r.1.1.Q.P.V.N), .ro false (.str r.1.1.Q.P.V.S), .own (.sl 7 (r.1.1.Q.P.L.map XPred.e)), .ro false (di r.1.1.Q.Col), .own (.sl 1 (r.1.1.Q.Out.map ei)), .ro false (di r.1.1.Ts), .ro false (di r.1.1.Ver), .own (.sl 5 (r.1.1.L.map XRef.e)), .ro false (di r.1.1.I), .ro false (di r.1.1.J), .ro false (di r.1.1.S), .ro false (di r.1.1.At), .ro false (di r.1.1.Own), .ro false (.bool r.1.1.Won), .own (.sl 2 (r.1.1.Got.map XRow.e))], vi r.1.2], [(0, 0, .ro false (.sl 1 (r.2.b.map eb))), (0, 1, .ro false (di (r.2.i : Nat))), (0, 2, .ro false (di r.2.h))]) ∧ (r.1.1.R.length ≤ 1000 ∧ XVal.sms r.1.1.R ∧ XQuery.sm r.1.1.Q ∧ r.1.1.L.length ≤ 5 ∧ r.1.1.Got = []) by
    obtain ⟨y, h1, r, rfl, h2⟩ := h0
    exact ⟨r, h1, h2⟩
  refine Gw_ofE (F := pf373) rfl rfl ?_
  show Wp _ pb373 _ _
  unfold pb373
  have q := p375 c 5
  obtain ⟨⟨n, c1⟩, hn⟩ : ∃ r, d375 c 5 = r := ⟨_, rfl⟩
  rw [hn] at q
  simp only at q
  have q2 := q.2.1 (by omega)
  obtain ⟨⟨k, c2⟩, hk⟩ : ∃ r, d375 c1 3 = r := ⟨_, rfl⟩
  obtain ⟨⟨pc, c3⟩, hpc⟩ : ∃ r, d375 c2 10 = r := ⟨_, rfl⟩
  obtain ⟨⟨hh, c4⟩, hhh⟩ : ∃ r, d375 c3 5 = r := ⟨_, rfl⟩
  rcases (by omega : n = 0 ∨ n = 1 ∨ n = 2 ∨ n = 3 ∨ n = 4) with rfl | rfl | rfl | rfl | rfl
  · skip
    repeat' (first
      | with_reducible (first | refine wp_seq ?_ | refine wp_blk ?_ | refine wp_skip ?_ | refine wp_exit ?_ | refine wp_ret ?_ | refine seqQ_norm ?_ | refine seqQ_ret ?_ | refine seqQ_exit ?_ | refine blkQ_norm ?_ | refine blkQ_ret ?_ | refine blkQ_exit ?_ | refine loopQ_norm ?_ | refine loopQ_exit ?_ | refine loopQ_ret ?_ | refine endQ_ret ?_ | refine endQ_norm ?_ | refine endE_ret ?_ | refine endE_norm ?_ | refine endI_ret ?_ | refine endI_norm ?_)
      | (with_reducible refine wp_regK fun K hK => ?_
         simp[hn, hk]
         repeat' (with_reducible first | refine hK _ ?_ | (refine psel ?_ ?_ <;> (intro hc; (try rw [Decidable.not_not] at hc); first | (exfalso; omega) | (try simp [hc, hn, hk]))))
         all_goals (clear hK; clear K))
      | (with_reducible refine wp_condE ?_
         refine ⟨_, rfl, ?_, ?_⟩ <;> (intro hc; (try simp at hc); (all_goals first | (exfalso; omega) | skip))))
    all_goals first | (exfalso; omega) | (refine ⟨_, by simp [pf373]; rfl, ?_⟩; refine ⟨(((⟨0, 0, 0, [], 0, ⟨0, ⟨0, 0, 0, ⟨0, 0, ⟨#[]⟩⟩, []⟩, 0, []⟩, 0, 0, [], 0, 0, 0, 0, 0, false, []⟩ : XTask), (d375 c2 5).1), (d375 c2 5).2), ?_, ?_, ?_, ?_, ?_, ?_⟩; (focus (first | (simp; done) | (simp [*]; done))); (focus (simp)); (focus (intro y hy; simp at hy)); (focus (simp only [XQuery.sm, XPred.sm_eq, XVal.sm, XPred.sms, bnil_size]; simp)); (focus (simp)); (focus (rfl))) | skip
  · skip
    have qc := p399 c4
    obtain ⟨⟨cols, c5⟩, hcols⟩ : ∃ r, d399 c4 = r := ⟨_, rfl⟩
    rw [hcols] at qc
    simp only at qc
    have hc1 : 1 ≤ cols.length := by omega
    have hc3 : cols.length ≤ 1000 := by omega
    have mv := p401 c5 true cols hc3
    obtain ⟨⟨v, c6⟩, hv⟩ : ∃ r, d401 c5 true cols hc3 = r := ⟨_, rfl⟩
    rw [hv] at mv
    simp only at mv
    have ml := p369 (d375 c6 3).2
    repeat' (first
      | with_reducible (first | refine wp_seq ?_ | refine wp_blk ?_ | refine wp_skip ?_ | refine wp_exit ?_ | refine wp_ret ?_ | refine seqQ_norm ?_ | refine seqQ_ret ?_ | refine seqQ_exit ?_ | refine blkQ_norm ?_ | refine blkQ_ret ?_ | refine blkQ_exit ?_ | refine loopQ_norm ?_ | refine loopQ_exit ?_ | refine loopQ_ret ?_ | refine endQ_ret ?_ | refine endQ_norm ?_ | refine endE_ret ?_ | refine endE_norm ?_ | refine endI_ret ?_ | refine endI_norm ?_)
      | (with_reducible refine wp_regK fun K hK => ?_
         simp[hn, hk, hpc, hhh, hcols, hc1, hc3, hv]
         repeat' (with_reducible first | refine hK _ ?_ | (refine psel ?_ ?_ <;> (intro hc; (try rw [Decidable.not_not] at hc); first | (exfalso; omega) | (try simp [hc, hn, hk, hpc, hhh, hcols, hc1, hc3, hv]))))
         all_goals (clear hK; clear K))
      | (with_reducible refine wp_condE ?_
         refine ⟨_, rfl, ?_, ?_⟩ <;> (intro hc; (try simp at hc); (all_goals first | (exfalso; omega) | skip))))
    all_goals first | (exfalso; omega) | (refine ⟨_, by simp [pf373]; rfl, ?_⟩; refine ⟨(((⟨1, pc, hh, v, (d375 c6 3).1, ⟨0, ⟨0, 0, 0, ⟨0, 0, ⟨#[]⟩⟩, []⟩, 0, []⟩, 0, 0, (d369 (d375 c6 3).2).1.L, 0, 0, 0, 0, 0, false, []⟩ : XTask), k), (d369 (d375 c6 3).2).2), ?_, ?_, ?_, ?_, ?_, ?_⟩; (focus (first | (simp; done) | (simp [*]; done))); (focus (exact mv.1)); (focus (exact mv.2)); (focus (simp only [XQuery.sm, XPred.sm_eq, XVal.sm, XPred.sms, bnil_size]; simp)); (focus (simp only; omega)); (focus (rfl))) | skip
  · skip
    have ml := p369 (d375 c4 6).2
    repeat' (first
      | with_reducible (first | refine wp_seq ?_ | refine wp_blk ?_ | refine wp_skip ?_ | refine wp_exit ?_ | refine wp_ret ?_ | refine seqQ_norm ?_ | refine seqQ_ret ?_ | refine seqQ_exit ?_ | refine blkQ_norm ?_ | refine blkQ_ret ?_ | refine blkQ_exit ?_ | refine loopQ_norm ?_ | refine loopQ_exit ?_ | refine loopQ_ret ?_ | refine endQ_ret ?_ | refine endQ_norm ?_ | refine endE_ret ?_ | refine endE_norm ?_ | refine endI_ret ?_ | refine endI_norm ?_)
      | (with_reducible refine wp_regK fun K hK => ?_
         simp[hn, hk, hpc, hhh]
         repeat' (with_reducible first | refine hK _ ?_ | (refine psel ?_ ?_ <;> (intro hc; (try rw [Decidable.not_not] at hc); first | (exfalso; omega) | (try simp [hc, hn, hk, hpc, hhh]))))
         all_goals (clear hK; clear K))
      | (with_reducible refine wp_condE ?_
         refine ⟨_, rfl, ?_, ?_⟩ <;> (intro hc; (try simp at hc); (all_goals first | (exfalso; omega) | skip))))
    all_goals first | (exfalso; omega) | (refine ⟨_, by simp [pf373]; rfl, ?_⟩; refine ⟨(((⟨2, pc, hh, [], (d375 c4 6).1, ⟨0, ⟨0, 0, 0, ⟨0, 0, ⟨#[]⟩⟩, []⟩, 0, []⟩, 0, 0, (d369 (d375 c4 6).2).1.L, 0, 0, 0, 0, 0, false, []⟩ : XTask), k), (d369 (d375 c4 6).2).2), ?_, ?_, ?_, ?_, ?_, ?_⟩; (focus (first | (simp; done) | (simp [*]; done))); (focus (simp)); (focus (intro y hy; simp at hy)); (focus (simp only [XQuery.sm, XPred.sm_eq, XVal.sm, XPred.sms, bnil_size]; simp)); (focus (simp only; omega)); (focus (rfl))) | skip
  · skip
    have qc := p399 c4
    obtain ⟨⟨cols, c5⟩, hcols⟩ : ∃ r, d399 c4 = r := ⟨_, rfl⟩
    rw [hcols] at qc
    simp only at qc
    have hc1 : 1 ≤ cols.length := by omega
    have hc3 : cols.length ≤ 1000 := by omega
    have mq := p354 c5 true cols hc1 hc3
    obtain ⟨⟨qq, c6⟩, hqq⟩ : ∃ r, d354 c5 true cols hc1 hc3 = r := ⟨_, rfl⟩
    rw [hqq] at mq
    simp only at mq
    have mq2 : XQuery.sm qq := ⟨mq.1, by omega⟩
    have ml := p369 (d375 c6 5).2
    repeat' (first
      | with_reducible (first | refine wp_seq ?_ | refine wp_blk ?_ | refine wp_skip ?_ | refine wp_exit ?_ | refine wp_ret ?_ | refine seqQ_norm ?_ | refine seqQ_ret ?_ | refine seqQ_exit ?_ | refine blkQ_norm ?_ | refine blkQ_ret ?_ | refine blkQ_exit ?_ | refine loopQ_norm ?_ | refine loopQ_exit ?_ | refine loopQ_ret ?_ | refine endQ_ret ?_ | refine endQ_norm ?_ | refine endE_ret ?_ | refine endE_norm ?_ | refine endI_ret ?_ | refine endI_norm ?_)
      | (with_reducible refine wp_regK fun K hK => ?_
         simp[hn, hk, hpc, hhh, hcols, hc1, hc3, hqq]
         repeat' (with_reducible first | refine hK _ ?_ | (refine psel ?_ ?_ <;> (intro hc; (try rw [Decidable.not_not] at hc); first | (exfalso; omega) | (try simp [hc, hn, hk, hpc, hhh, hcols, hc1, hc3, hqq]))))
         all_goals (clear hK; clear K))
      | (with_reducible refine wp_condE ?_
         refine ⟨_, rfl, ?_, ?_⟩ <;> (intro hc; (try simp at hc); (all_goals first | (exfalso; omega) | skip))))
    all_goals first | (exfalso; omega) | (refine ⟨_, by simp [pf373]; rfl, ?_⟩; refine ⟨(((⟨3, pc, hh, [], 0, qq, (d375 c6 5).1, 0, (d369 (d375 c6 5).2).1.L, 0, 0, 0, 0, 0, false, []⟩ : XTask), k), (d369 (d375 c6 5).2).2), ?_, ?_, ?_, ?_, ?_, ?_⟩; (focus (first | (simp; done) | (simp [*]; done))); (focus (simp)); (focus (intro y hy; simp at hy)); (focus (exact mq2)); (focus (simp only; omega)); (focus (rfl))) | skip
  · skip
    have ml := p369 (d375 c4 2).2
    repeat' (first
      | with_reducible (first | refine wp_seq ?_ | refine wp_blk ?_ | refine wp_skip ?_ | refine wp_exit ?_ | refine wp_ret ?_ | refine seqQ_norm ?_ | refine seqQ_ret ?_ | refine seqQ_exit ?_ | refine blkQ_norm ?_ | refine blkQ_ret ?_ | refine blkQ_exit ?_ | refine loopQ_norm ?_ | refine loopQ_exit ?_ | refine loopQ_ret ?_ | refine endQ_ret ?_ | refine endQ_norm ?_ | refine endE_ret ?_ | refine endE_norm ?_ | refine endI_ret ?_ | refine endI_norm ?_)
      | (with_reducible refine wp_regK fun K hK => ?_
         simp[hn, hk, hpc, hhh]
         repeat' (with_reducible first | refine hK _ ?_ | (refine psel ?_ ?_ <;> (intro hc; (try rw [Decidable.not_not] at hc); first | (exfalso; omega) | (try simp [hc, hn, hk, hpc, hhh]))))
         all_goals (clear hK; clear K))
      | (with_reducible refine wp_condE ?_
         refine ⟨_, rfl, ?_, ?_⟩ <;> (intro hc; (try simp at hc); (all_goals first | (exfalso; omega) | skip))))
    all_goals first | (exfalso; omega) | (refine ⟨_, by simp [pf373]; rfl, ?_⟩; refine ⟨(((⟨4, pc, hh, [], 0, ⟨0, ⟨0, 0, 0, ⟨0, 0, ⟨#[]⟩⟩, []⟩, 0, []⟩, 0, 0, (d369 (d375 c4 2).2).1.L, 0, 0, 0, 0, 0, false, []⟩ : XTask), IntKind.wrap .i64 (3 + (d375 c4 2).1)), (d369 (d375 c4 2).2).2), ?_, ?_, ?_, ?_, ?_, ?_⟩; (focus (first | (simp; done) | (simp [*]; done))); (focus (simp)); (focus (intro y hy; simp at hy)); (focus (simp only [XQuery.sm, XPred.sm_eq, XVal.sm, XPred.sms, bnil_size]; simp)); (focus (simp only; omega)); (focus (rfl))) | skip

noncomputable def d373 (c : XCur)  : (XTask × Int) × XCur := Classical.choose (d373_ex c)

@[simp] theorem t373 (c : XCur)  : Gw TT 373 [.ptr [.ro false (.sl 1 (c.b.map eb)), .ro false (di (c.i : Nat)), .ro false (di c.h)]] = some (.tup [.st [.ro false (di (d373 c).1.1.Op), .ro false (di (d373 c).1.1.Pc), .ro false (di (d373 c).1.1.H), .own (.sl 3 ((d373 c).1.1.R.map XVal.e)), .ro false (di (d373 c).1.1.Id), .ro false (di (d373 c).1.1.Q.Kind), .ro false (di (d373 c).1.1.Q.P.Kind), .ro false (di (d373 c).1.1.Q.P.Col), .ro false (di (d373 c).1.1.Q.P.Op), .ro false (di (d373 c).1.1.Q.P.V.Ty), .ro false (di (d373 c).1.1.Q.P.V.N), .ro false (.str (d373 c).1.1.Q.P.V.S), .own (.sl 7 ((d373 c).1.1.Q.P.L.map XPred.e)), .ro false (di (d373 c).1.1.Q.Col), .own (.sl 1 ((d373 c).1.1.Q.Out.map ei)), .ro false (di (d373 c).1.1.Ts), .ro false (di (d373 c).1.1.Ver), .own (.sl 5 ((d373 c).1.1.L.map XRef.e)), .ro false (di (d373 c).1.1.I), .ro false (di (d373 c).1.1.J), .ro false (di (d373 c).1.1.S), .ro false (di (d373 c).1.1.At), .ro false (di (d373 c).1.1.Own), .ro false (.bool (d373 c).1.1.Won), .own (.sl 2 ((d373 c).1.1.Got.map XRow.e))], vi (d373 c).1.2], [(0, 0, .ro false (.sl 1 ((d373 c).2.b.map eb))), (0, 1, .ro false (di ((d373 c).2.i : Nat))), (0, 2, .ro false (di (d373 c).2.h))]) := (Classical.choose_spec (d373_ex c)).1

theorem p373 (c : XCur)  : (d373 c).1.1.R.length ≤ 1000 ∧ XVal.sms (d373 c).1.1.R ∧ XQuery.sm (d373 c).1.1.Q ∧ (d373 c).1.1.L.length ≤ 5 ∧ (d373 c).1.1.Got = [] := (Classical.choose_spec (d373_ex c)).2

theorem d371_ex (c : XCur)  : ∃ r : (XTask × Int) × XCur, Gw TT 371 [.ptr [.ro false (.sl 1 (c.b.map eb)), .ro false (di (c.i : Nat)), .ro false (di c.h)]] = some (.tup [.st [.ro false (di r.1.1.Op), .ro false (di r.1.1.Pc), .ro false (di r.1.1.H), .own (.sl 3 (r.1.1.R.map XVal.e)), .ro false (di r.1.1.Id), .ro false (di r.1.1.Q.Kind), .ro false (di r.1.1.Q.P.Kind), .ro false (di r.1.1.Q.P.Col), .ro false (di r.1.1.Q.P.Op), .ro false (di r.1.1.Q.P.V.Ty), .ro false (di r.1.1.Q.P.V.N), .ro false (.str r.1.1.Q.P.V.S), .own (.sl 7 (r.1.1.Q.P.L.map XPred.e)), .ro false (di r.1.1.Q.Col), .own (.sl 1 (r.1.1.Q.Out.map ei)), .ro false (di r.1.1.Ts), .ro false (di r.1.1.Ver), .own (.sl 5 (r.1.1.L.map XRef.e)), .ro false (di r.1.1.I), .ro false (di r.1.1.J), .ro false (di r.1.1.S), .ro false (di r.1.1.At), .ro false (di r.1.1.Own), .ro false (.bool r.1.1.Won), .own (.sl 2 (r.1.1.Got.map XRow.e))], vi r.1.2], [(0, 0, .ro false (.sl 1 (r.2.b.map eb))), (0, 1, .ro false (di (r.2.i : Nat))), (0, 2, .ro false (di r.2.h))]) ∧ (r.1.1.R.length ≤ 1000 ∧ XVal.sms r.1.1.R ∧ XQuery.sm r.1.1.Q ∧ r.1.1.L.length ≤ 6 ∧ r.1.1.Got = []) := by
  suffices h0 : ∃ y, Gw TT 371 [.ptr [.ro false (.sl 1 (c.b.map eb)), .ro false (di (c.i : Nat)), .ro false (di c.h)]] = some y ∧ ∃ r : (XTask × Int) × XCur, y = (.tup [.st [.ro false (di r.1.1.Op), .ro false (di r.1.1.Pc), .ro false (di r.1.1.H), .own (.sl 3 (r.1.1.R.map XVal.e)), .ro false (di r.1.1.Id), .ro false (di r.1.1.Q.Kind), .ro false (di r.1.1.Q.P.Kind), .ro false (di r.1.1.Q.P.Col), .ro false (di r.1.1.Q.P.Op), .ro false (di r.1.1.Q.P.V.Ty), .ro false (di r.1.1.Q.P.V.N), .ro false (.str r.1.1.Q.P.V.S), .own (.sl 7 (r.1.1.Q.P.L.map XPred.e)), .ro false (di r.1.1.Q.Col), .own (.sl 1 (r.1.1.Q.Out.map ei)), .ro false (di r.1.1.Ts), .ro false (di r.1.1.Ver), .own (.sl 5 (r.1.1.L.map XRef.e)), .ro false (di r.1.1.I), .ro false (di r.1.1.J), .ro false (di r.1.1.S), .ro false (di r.1.1.At), .ro false (di r.1.1.Own), .ro false (.bool r.1.1.Won), .own (.sl 2 (r.1.1.Got.map XRow.e))], vi r.1.2], [(0, 0, .ro false (.sl 1 (r.2.b.map eb))), (0, 1, .ro false (di (r.2.i : Nat))), (0, 2, .ro false (di r.2.h))]) ∧ (r.1.1.R.length ≤ 1000 ∧ XVal.sms r.1.1.R ∧ XQuery.sm r.1.1.Q ∧ r.1.1.L.length ≤ 6 ∧ r.1.1.Got = []) by
    obtain ⟨y, h1, r, rfl, h2⟩ := h0
    exact ⟨r, h1, h2⟩
  refine Gw_ofE (F := pf371) rfl rfl ?_
  show Wp _ pb371 _ _
  unfold pb371
  have mt := p373 c
  obtain ⟨⟨t, c1⟩, ht⟩ : ∃ r, d373 c = r := ⟨_, rfl⟩
  rw [ht] at mt
  obtain ⟨y, k⟩ := t
  simp only at mt
  obtain ⟨m1, m2, m3, m4, m5⟩ := mt
  have hq : (y.L.length + 1) * 40 ≤ 70368744177664 := by omega
  obtain ⟨⟨n, c2⟩, hn⟩ : ∃ r, d375 c1 14 = r := ⟨_, rfl⟩
  obtain ⟨r, gr⟩ : ∃ r : Int × XCur, Gw TT 378 [.ptr [.ro false (.sl 1 (c2.b.map eb)), .ro false (di (c2.i : Nat)), .ro false (di c2.h)], .one (.ro true (.sl 1 [[di 0], [di 1], [di 4], [di 5], [di (-1)]]))] = some (vi r.1, [(0, 0, .ro false (.sl 1 (r.2.b.map eb))), (0, 1, .ro false (di (r.2.i : Nat))), (0, 2, .ro false (di r.2.h))]) := ⟨_, t378 c2 true [[di 0], [di 1], [di 4], [di 5], [di (-1)]] (by simp) (by simp) (by simp)⟩
  obtain ⟨s, gs⟩ : ∃ r : Int × XCur, Gw TT 378 [.ptr [.ro false (.sl 1 (c2.b.map eb)), .ro false (di (c2.i : Nat)), .ro false (di c2.h)], .one (.ro true (.sl 1 [[di (-1)], [di 9], [di 10]]))] = some (vi r.1, [(0, 0, .ro false (.sl 1 (r.2.b.map eb))), (0, 1, .ro false (di (r.2.i : Nat))), (0, 2, .ro false (di r.2.h))]) := ⟨_, t378 c2 true [[di (-1)], [di 9], [di 10]] (by simp) (by simp) (by simp)⟩
  obtain ⟨u, gu⟩ : ∃ r : Int × XCur, Gw TT 378 [.ptr [.ro false (.sl 1 (c2.b.map eb)), .ro false (di (c2.i : Nat)), .ro false (di c2.h)], .one (.ro true (.sl 1 [[di (-1)], [di 2]]))] = some (vi r.1, [(0, 0, .ro false (.sl 1 (r.2.b.map eb))), (0, 1, .ro false (di (r.2.i : Nat))), (0, 2, .ro false (di r.2.h))]) := ⟨_, t378 c2 true [[di (-1)], [di 2]] (by simp) (by simp) (by simp)⟩
  by_cases z0 : n = 0
  · skip
    repeat' (first
      | with_reducible (first | refine wp_seq ?_ | refine wp_blk ?_ | refine wp_skip ?_ | refine wp_exit ?_ | refine wp_ret ?_ | refine seqQ_norm ?_ | refine seqQ_ret ?_ | refine seqQ_exit ?_ | refine blkQ_norm ?_ | refine blkQ_ret ?_ | refine blkQ_exit ?_ | refine loopQ_norm ?_ | refine loopQ_exit ?_ | refine loopQ_ret ?_ | refine endQ_ret ?_ | refine endQ_norm ?_ | refine endE_ret ?_ | refine endE_norm ?_ | refine endI_ret ?_ | refine endI_norm ?_)
      | (with_reducible refine wp_regK fun K hK => ?_
         simp[ht, hn, gr, z0]
         repeat' (with_reducible first | refine hK _ ?_ | (refine psel ?_ ?_ <;> (intro hc; (try rw [Decidable.not_not] at hc); first | (exfalso; omega) | (try simp [hc, ht, hn, gr, z0]))))
         all_goals (clear hK; clear K))
      | (with_reducible refine wp_condE ?_
         refine ⟨_, rfl, ?_, ?_⟩ <;> (intro hc; (try simp at hc); (all_goals first | (exfalso; omega) | skip))))
    all_goals first | (exfalso; omega) | (refine ⟨_, by simp [pf371]; rfl, ?_⟩; refine ⟨(((⟨r.1, y.Pc, y.H, y.R, y.Id, y.Q, y.Ts, y.Ver, y.L, y.I, y.J, y.S, y.At, y.Own, y.Won, y.Got⟩ : XTask), k), r.2), ?_, ?_, ?_, ?_, ?_, ?_⟩; (focus (first | (simp; done) | (simp [*]; done))); (focus (exact m1)); (focus (exact m2)); (focus (exact m3)); (focus (simp only; omega)); (focus (exact m5))) | skip
  by_cases z1 : n = 1
  · skip
    repeat' (first
      | with_reducible (first | refine wp_seq ?_ | refine wp_blk ?_ | refine wp_skip ?_ | refine wp_exit ?_ | refine wp_ret ?_ | refine seqQ_norm ?_ | refine seqQ_ret ?_ | refine seqQ_exit ?_ | refine blkQ_norm ?_ | refine blkQ_ret ?_ | refine blkQ_exit ?_ | refine loopQ_norm ?_ | refine loopQ_exit ?_ | refine loopQ_ret ?_ | refine endQ_ret ?_ | refine endQ_norm ?_ | refine endE_ret ?_ | refine endE_norm ?_ | refine endI_ret ?_ | refine endI_norm ?_)
      | (with_reducible refine wp_regK fun K hK => ?_
         simp[ht, hn, gs, z1]
         repeat' (with_reducible first | refine hK _ ?_ | (refine psel ?_ ?_ <;> (intro hc; (try rw [Decidable.not_not] at hc); first | (exfalso; omega) | (try simp [hc, ht, hn, gs, z1]))))
         all_goals (clear hK; clear K))
      | (with_reducible refine wp_condE ?_
         refine ⟨_, rfl, ?_, ?_⟩ <;> (intro hc; (try simp at hc); (all_goals first | (exfalso; omega) | skip))))
    all_goals first | (exfalso; omega) | (refine ⟨_, by simp [pf371]; rfl, ?_⟩; refine ⟨(((⟨y.Op, s.1, y.H, y.R, y.Id, y.Q, y.Ts, y.Ver, y.L, y.I, y.J, y.S, y.At, y.Own, y.Won, y.Got⟩ : XTask), k), s.2), ?_, ?_, ?_, ?_, ?_, ?_⟩; (focus (first | (simp; done) | (simp [*]; done))); (focus (exact m1)); (focus (exact m2)); (focus (exact m3)); (focus (simp only; omega)); (focus (exact m5))) | skip
  by_cases z2 : n = 2
  · skip
    repeat' (first
      | with_reducible (first | refine wp_seq ?_ | refine wp_blk ?_ | refine wp_skip ?_ | refine wp_exit ?_ | refine wp_ret ?_ | refine seqQ_norm ?_ | refine seqQ_ret ?_ | refine seqQ_exit ?_ | refine blkQ_norm ?_ | refine blkQ_ret ?_ | refine blkQ_exit ?_ | refine loopQ_norm ?_ | refine loopQ_exit ?_ | refine loopQ_ret ?_ | refine endQ_ret ?_ | refine endQ_norm ?_ | refine endE_ret ?_ | refine endE_norm ?_ | refine endI_ret ?_ | refine endI_norm ?_)
      | (with_reducible refine wp_regK fun K hK => ?_
         simp[ht, hn, z2]
         repeat' (with_reducible first | refine hK _ ?_ | (refine psel ?_ ?_ <;> (intro hc; (try rw [Decidable.not_not] at hc); first | (exfalso; omega) | (try simp [hc, ht, hn, z2]))))
         all_goals (clear hK; clear K))
      | (with_reducible refine wp_condE ?_
         refine ⟨_, rfl, ?_, ?_⟩ <;> (intro hc; (try simp at hc); (all_goals first | (exfalso; omega) | skip))))
    all_goals first | (exfalso; omega) | (refine ⟨_, by simp [pf371]; rfl, ?_⟩; refine ⟨(((⟨y.Op, y.Pc, -1, y.R, y.Id, y.Q, y.Ts, y.Ver, y.L, y.I, y.J, y.S, y.At, y.Own, y.Won, y.Got⟩ : XTask), k), c2), ?_, ?_, ?_, ?_, ?_, ?_⟩; (focus (first | (simp; done) | (simp [*]; done))); (focus (exact m1)); (focus (exact m2)); (focus (exact m3)); (focus (simp only; omega)); (focus (exact m5))) | skip
  by_cases z3 : n = 3
  · skip
    repeat' (first
      | with_reducible (first | refine wp_seq ?_ | refine wp_blk ?_ | refine wp_skip ?_ | refine wp_exit ?_ | refine wp_ret ?_ | refine seqQ_norm ?_ | refine seqQ_ret ?_ | refine seqQ_exit ?_ | refine blkQ_norm ?_ | refine blkQ_ret ?_ | refine blkQ_exit ?_ | refine loopQ_norm ?_ | refine loopQ_exit ?_ | refine loopQ_ret ?_ | refine endQ_ret ?_ | refine endQ_norm ?_ | refine endE_ret ?_ | refine endE_norm ?_ | refine endI_ret ?_ | refine endI_norm ?_)
      | (with_reducible refine wp_regK fun K hK => ?_
         simp[ht, hn, z3]
         repeat' (with_reducible first | refine hK _ ?_ | (refine psel ?_ ?_ <;> (intro hc; (try rw [Decidable.not_not] at hc); first | (exfalso; omega) | (try simp [hc, ht, hn, z3]))))
         all_goals (clear hK; clear K))
      | (with_reducible refine wp_condE ?_
         refine ⟨_, rfl, ?_, ?_⟩ <;> (intro hc; (try simp at hc); (all_goals first | (exfalso; omega) | skip))))
    all_goals first | (exfalso; omega) | (refine ⟨_, by simp [pf371]; rfl, ?_⟩; refine ⟨((y, IntKind.wrap .i64 ((d375 c2 7).1 - 1)), (d375 c2 7).2), ?_, ?_, ?_, ?_, ?_, ?_⟩; (focus (first | (simp; done) | (simp [*]; done))); (focus (exact m1)); (focus (exact m2)); (focus (exact m3)); (focus (simp only; omega)); (focus (exact m5))) | skip
  by_cases z4 : n = 4
  · skip
    repeat' (first
      | with_reducible (first | refine wp_seq ?_ | refine wp_blk ?_ | refine wp_skip ?_ | refine wp_exit ?_ | refine wp_ret ?_ | refine seqQ_norm ?_ | refine seqQ_ret ?_ | refine seqQ_exit ?_ | refine blkQ_norm ?_ | refine blkQ_ret ?_ | refine blkQ_exit ?_ | refine loopQ_norm ?_ | refine loopQ_exit ?_ | refine loopQ_ret ?_ | refine endQ_ret ?_ | refine endQ_norm ?_ | refine endE_ret ?_ | refine endE_norm ?_ | refine endI_ret ?_ | refine endI_norm ?_)
      | (with_reducible refine wp_regK fun K hK => ?_
         simp[ht, hn, gu, z4]
         repeat' (with_reducible first | refine hK _ ?_ | (refine psel ?_ ?_ <;> (intro hc; (try rw [Decidable.not_not] at hc); first | (exfalso; omega) | (try simp [hc, ht, hn, gu, z4]))))
         all_goals (clear hK; clear K))
      | (with_reducible refine wp_condE ?_
         refine ⟨_, rfl, ?_, ?_⟩ <;> (intro hc; (try simp at hc); (all_goals first | (exfalso; omega) | skip))))
    all_goals first | (exfalso; omega) | (refine ⟨_, by simp [pf371]; rfl, ?_⟩; refine ⟨(((⟨y.Op, y.Pc, y.H, y.R, y.Id, y.Q, y.Ts, y.Ver, y.L, y.I, y.J, u.1, y.At, y.Own, y.Won, y.Got⟩ : XTask), k), u.2), ?_, ?_, ?_, ?_, ?_, ?_⟩; (focus (first | (simp; done) | (simp [*]; done))); (focus (exact m1)); (focus (exact m2)); (focus (exact m3)); (focus (simp only; omega)); (focus (exact m5))) | skip
  by_cases z5 : n = 5
  · skip
    repeat' (first
      | with_reducible (first | refine wp_seq ?_ | refine wp_blk ?_ | refine wp_skip ?_ | refine wp_exit ?_ | refine wp_ret ?_ | refine seqQ_norm ?_ | refine seqQ_ret ?_ | refine seqQ_exit ?_ | refine blkQ_norm ?_ | refine blkQ_ret ?_ | refine blkQ_exit ?_ | refine loopQ_norm ?_ | refine loopQ_exit ?_ | refine loopQ_ret ?_ | refine endQ_ret ?_ | refine endQ_norm ?_ | refine endE_ret ?_ | refine endE_norm ?_ | refine endI_ret ?_ | refine endI_norm ?_)
      | (with_reducible refine wp_regK fun K hK => ?_
         simp[ht, hn, z5, hq]
         repeat' (with_reducible first | refine hK _ ?_ | (refine psel ?_ ?_ <;> (intro hc; (try rw [Decidable.not_not] at hc); first | (exfalso; omega) | (try simp [hc, ht, hn, z5, hq]))))
         all_goals (clear hK; clear K))
      | (with_reducible refine wp_condE ?_
         refine ⟨_, rfl, ?_, ?_⟩ <;> (intro hc; (try simp at hc); (all_goals first | (exfalso; omega) | skip))))
    all_goals first | (exfalso; omega) | (refine ⟨_, by simp [pf371]; rfl, ?_⟩; refine ⟨(((⟨y.Op, y.Pc, y.H, y.R, y.Id, y.Q, y.Ts, y.Ver, y.L ++ [⟨-1, 0, 0, 0, 0⟩], y.I, y.J, y.S, y.At, y.Own, y.Won, y.Got⟩ : XTask), k), c2), ?_, ?_, ?_, ?_, ?_, ?_⟩; (focus (first | (simp; done) | (simp [*]; done))); (focus (exact m1)); (focus (exact m2)); (focus (exact m3)); (focus (simp only [List.length_append, List.length_cons, List.length_nil]; omega)); (focus (exact m5))) | skip
  skip
  repeat' (first
    | with_reducible (first | refine wp_seq ?_ | refine wp_blk ?_ | refine wp_skip ?_ | refine wp_exit ?_ | refine wp_ret ?_ | refine seqQ_norm ?_ | refine seqQ_ret ?_ | refine seqQ_exit ?_ | refine blkQ_norm ?_ | refine blkQ_ret ?_ | refine blkQ_exit ?_ | refine loopQ_norm ?_ | refine loopQ_exit ?_ | refine loopQ_ret ?_ | refine endQ_ret ?_ | refine endQ_norm ?_ | refine endE_ret ?_ | refine endE_norm ?_ | refine endI_ret ?_ | refine endI_norm ?_)
    | (with_reducible refine wp_regK fun K hK => ?_
       simp[ht, hn, z0, z1, z2, z3, z4, z5]
       repeat' (with_reducible first | refine hK _ ?_ | (refine psel ?_ ?_ <;> (intro hc; (try rw [Decidable.not_not] at hc); first | (exfalso; omega) | (try simp [hc, ht, hn, z0, z1, z2, z3, z4, z5]))))
       all_goals (clear hK; clear K))
    | (with_reducible refine wp_condE ?_
       refine ⟨_, rfl, ?_, ?_⟩ <;> (intro hc; (try simp at hc); (all_goals first | (exfalso; omega) | skip))))
  all_goals first | (exfalso; omega) | (refine ⟨_, by simp [pf371]; rfl, ?_⟩; refine ⟨((y, k), c2), ?_, ?_, ?_, ?_, ?_, ?_⟩; (focus (first | (simp; done) | (simp [*]; done))); (focus (exact m1)); (focus (exact m2)); (focus (exact m3)); (focus (simp only; omega)); (focus (exact m5))) | skip

noncomputable def d371 (c : XCur)  : (XTask × Int) × XCur := Classical.choose (d371_ex c)

@[simp] theorem t371 (c : XCur)  : Gw TT 371 [.ptr [.ro false (.sl 1 (c.b.map eb)), .ro false (di (c.i : Nat)), .ro false (di c.h)]] = some (.tup [.st [.ro false (di (d371 c).1.1.Op), .ro false (di (d371 c).1.1.Pc), .ro false (di (d371 c).1.1.H), .own (.sl 3 ((d371 c).1.1.R.map XVal.e)), .ro false (di (d371 c).1.1.Id), .ro false (di (d371 c).1.1.Q.Kind), .ro false (di (d371 c).1.1.Q.P.Kind), .ro false (di (d371 c).1.1.Q.P.Col), .ro false (di (d371 c).1.1.Q.P.Op), .ro false (di (d371 c).1.1.Q.P.V.Ty), .ro false (di (d371 c).1.1.Q.P.V.N), .ro false (.str (d371 c).1.1.Q.P.V.S), .own (.sl 7 ((d371 c).1.1.Q.P.L.map XPred.e)), .ro false (di (d371 c).1.1.Q.Col), .own (.sl 1 ((d371 c).1.1.Q.Out.map ei)), .ro false (di (d371 c).1.1.Ts), .ro false (di (d371 c).1.1.Ver), .own (.sl 5 ((d371 c).1.1.L.map XRef.e)), .ro false (di (d371 c).1.1.I), .ro false (di (d371 c).1.1.J), .ro false (di (d371 c).1.1.S), .ro false (di (d371 c).1.1.At), .ro false (di (d371 c).1.1.Own), .ro false (.bool (d371 c).1.1.Won), .own (.sl 2 ((d371 c).1.1.Got.map XRow.e))], vi (d371 c).1.2], [(0, 0, .ro false (.sl 1 ((d371 c).2.b.map eb))), (0, 1, .ro false (di ((d371 c).2.i : Nat))), (0, 2, .ro false (di (d371 c).2.h))]) := (Classical.choose_spec (d371_ex c)).1

theorem p371 (c : XCur)  : (d371 c).1.1.R.length ≤ 1000 ∧ XVal.sms (d371 c).1.1.R ∧ XQuery.sm (d371 c).1.1.Q ∧ (d371 c).1.1.L.length ≤ 6 ∧ (d371 c).1.1.Got = [] := (Classical.choose_spec (d371_ex c)).2

theorem e292_ex (b : List Int) (hb : b.length ≤ 1048576) : ∃ r : XTask × Int, Gw TT 292 [.one (.ro false (.sl 1 (b.map eb)))] = some (.tup [.st [.ro false (di r.1.Op), .ro false (di r.1.Pc), .ro false (di r.1.H), .own (.sl 3 (r.1.R.map XVal.e)), .ro false (di r.1.Id), .ro false (di r.1.Q.Kind), .ro false (di r.1.Q.P.Kind), .ro false (di r.1.Q.P.Col), .ro false (di r.1.Q.P.Op), .ro false (di r.1.Q.P.V.Ty), .ro false (di r.1.Q.P.V.N), .ro false (.str r.1.Q.P.V.S), .own (.sl 7 (r.1.Q.P.L.map XPred.e)), .ro false (di r.1.Q.Col), .own (.sl 1 (r.1.Q.Out.map ei)), .ro false (di r.1.Ts), .ro false (di r.1.Ver), .own (.sl 5 (r.1.L.map XRef.e)), .ro false (di r.1.I), .ro false (di r.1.J), .ro false (di r.1.S), .ro false (di r.1.At), .ro false (di r.1.Own), .ro false (.bool r.1.Won), .own (.sl 2 (r.1.Got.map XRow.e))], vi r.2], []) ∧ (r.1.R.length ≤ 1000 ∧ XVal.sms r.1.R ∧ XQuery.sm r.1.Q ∧ r.1.L.length ≤ 6 ∧ r.1.Got = []) := by
  suffices h0 : ∃ y, Gw TT 292 [.one (.ro false (.sl 1 (b.map eb)))] = some y ∧ ∃ r : XTask × Int, y = (.tup [.st [.ro false (di r.1.Op), .ro false (di r.1.Pc), .ro false (di r.1.H), .own (.sl 3 (r.1.R.map XVal.e)), .ro false (di r.1.Id), .ro false (di r.1.Q.Kind), .ro false (di r.1.Q.P.Kind), .ro false (di r.1.Q.P.Col), .ro false (di r.1.Q.P.Op), .ro false (di r.1.Q.P.V.Ty), .ro false (di r.1.Q.P.V.N), .ro false (.str r.1.Q.P.V.S), .own (.sl 7 (r.1.Q.P.L.map XPred.e)), .ro false (di r.1.Q.Col), .own (.sl 1 (r.1.Q.Out.map ei)), .ro false (di r.1.Ts), .ro false (di r.1.Ver), .own (.sl 5 (r.1.L.map XRef.e)), .ro false (di r.1.I), .ro false (di r.1.J), .ro false (di r.1.S), .ro false (di r.1.At), .ro false (di r.1.Own), .ro false (.bool r.1.Won), .own (.sl 2 (r.1.Got.map XRow.e))], vi r.2], []) ∧ (r.1.R.length ≤ 1000 ∧ XVal.sms r.1.R ∧ XQuery.sm r.1.Q ∧ r.1.L.length ≤ 6 ∧ r.1.Got = []) by
    obtain ⟨y, h1, r, rfl, h2⟩ := h0
    exact ⟨r, h1, h2⟩
  refine Gw_ofE (F := pf292) rfl rfl ?_
  show Wp _ pb292 _ _
  unfold pb292
  have ma := p371 (newC b hb)
  obtain ⟨⟨t, c1⟩, ht⟩ : ∃ r, d371 (newC b hb) = r := ⟨_, rfl⟩
  rw [ht] at ma
  obtain ⟨y, k⟩ := t
  simp only at ma
  repeat' (first
    | with_reducible (first | refine wp_seq ?_ | refine wp_blk ?_ | refine wp_skip ?_ | refine wp_exit ?_ | refine wp_ret ?_ | refine seqQ_norm ?_ | refine seqQ_ret ?_ | refine seqQ_exit ?_ | refine blkQ_norm ?_ | refine blkQ_ret ?_ | refine blkQ_exit ?_ | refine loopQ_norm ?_ | refine loopQ_exit ?_ | refine loopQ_ret ?_ | refine endQ_ret ?_ | refine endQ_norm ?_ | refine endE_ret ?_ | refine endE_norm ?_ | refine endI_ret ?_ | refine endI_norm ?_)
    | (with_reducible refine wp_regK fun K hK => ?_
       simp[hb, ht]
       repeat' (with_reducible first | refine hK _ ?_ | (refine psel ?_ ?_ <;> (intro hc; (try rw [Decidable.not_not] at hc); first | (exfalso; omega) | (try simp [hc, hb, ht]))))
       all_goals (clear hK; clear K))
    | (with_reducible refine wp_condE ?_
       refine ⟨_, rfl, ?_, ?_⟩ <;> (intro hc; (try simp at hc); (all_goals first | (exfalso; omega) | skip))))
  all_goals first | (exfalso; omega) | (refine ⟨_, by simp [pf292]; rfl, ?_⟩; refine ⟨(y, k), ?_, ?_, ?_, ?_, ?_, ?_⟩; (focus (first | (simp; done) | (simp [*]; done))); (focus (exact ma.1)); (focus (exact ma.2.1)); (focus (exact ma.2.2.1)); (focus (exact ma.2.2.2.1)); (focus (exact ma.2.2.2.2))) | skip

theorem e279_ex (b : List Int) (hb : b.length ≤ 1048576) : ∃ r : XTask × Int, Gw TT 279 [.one (.ro false (.sl 1 (b.map eb)))] = some (.tup [.st [.ro false (di r.1.Op), .ro false (di r.1.Pc), .ro false (di r.1.H), .own (.sl 3 (r.1.R.map XVal.e)), .ro false (di r.1.Id), .ro false (di r.1.Q.Kind), .ro false (di r.1.Q.P.Kind), .ro false (di r.1.Q.P.Col), .ro false (di r.1.Q.P.Op), .ro false (di r.1.Q.P.V.Ty), .ro false (di r.1.Q.P.V.N), .ro false (.str r.1.Q.P.V.S), .own (.sl 7 (r.1.Q.P.L.map XPred.e)), .ro false (di r.1.Q.Col), .own (.sl 1 (r.1.Q.Out.map ei)), .ro false (di r.1.Ts), .ro false (di r.1.Ver), .own (.sl 5 (r.1.L.map XRef.e)), .ro false (di r.1.I), .ro false (di r.1.J), .ro false (di r.1.S), .ro false (di r.1.At), .ro false (di r.1.Own), .ro false (.bool r.1.Won), .own (.sl 2 (r.1.Got.map XRow.e))], vi r.2], []) ∧ (r.1.R.length ≤ 1000 ∧ XVal.sms r.1.R ∧ XQuery.sm r.1.Q ∧ r.1.L.length ≤ 6 ∧ r.1.Got = []) := by
  suffices h0 : ∃ y, Gw TT 279 [.one (.ro false (.sl 1 (b.map eb)))] = some y ∧ ∃ r : XTask × Int, y = (.tup [.st [.ro false (di r.1.Op), .ro false (di r.1.Pc), .ro false (di r.1.H), .own (.sl 3 (r.1.R.map XVal.e)), .ro false (di r.1.Id), .ro false (di r.1.Q.Kind), .ro false (di r.1.Q.P.Kind), .ro false (di r.1.Q.P.Col), .ro false (di r.1.Q.P.Op), .ro false (di r.1.Q.P.V.Ty), .ro false (di r.1.Q.P.V.N), .ro false (.str r.1.Q.P.V.S), .own (.sl 7 (r.1.Q.P.L.map XPred.e)), .ro false (di r.1.Q.Col), .own (.sl 1 (r.1.Q.Out.map ei)), .ro false (di r.1.Ts), .ro false (di r.1.Ver), .own (.sl 5 (r.1.L.map XRef.e)), .ro false (di r.1.I), .ro false (di r.1.J), .ro false (di r.1.S), .ro false (di r.1.At), .ro false (di r.1.Own), .ro false (.bool r.1.Won), .own (.sl 2 (r.1.Got.map XRow.e))], vi r.2], []) ∧ (r.1.R.length ≤ 1000 ∧ XVal.sms r.1.R ∧ XQuery.sm r.1.Q ∧ r.1.L.length ≤ 6 ∧ r.1.Got = []) by
    obtain ⟨y, h1, r, rfl, h2⟩ := h0
    exact ⟨r, h1, h2⟩
  refine Gw_ofE (F := pf279) rfl rfl ?_
  show Wp _ pb279 _ _
  unfold pb279
  have ma := p371 (newC b hb)
  obtain ⟨⟨t, c1⟩, ht⟩ : ∃ r, d371 (newC b hb) = r := ⟨_, rfl⟩
  rw [ht] at ma
  obtain ⟨y, k⟩ := t
  simp only at ma
  repeat' (first
    | with_reducible (first | refine wp_seq ?_ | refine wp_blk ?_ | refine wp_skip ?_ | refine wp_exit ?_ | refine wp_ret ?_ | refine seqQ_norm ?_ | refine seqQ_ret ?_ | refine seqQ_exit ?_ | refine blkQ_norm ?_ | refine blkQ_ret ?_ | refine blkQ_exit ?_ | refine loopQ_norm ?_ | refine loopQ_exit ?_ | refine loopQ_ret ?_ | refine endQ_ret ?_ | refine endQ_norm ?_ | refine endE_ret ?_ | refine endE_norm ?_ | refine endI_ret ?_ | refine endI_norm ?_)
    | (with_reducible refine wp_regK fun K hK => ?_
       simp[hb, ht]
       repeat' (with_reducible first | refine hK _ ?_ | (refine psel ?_ ?_ <;> (intro hc; (try rw [Decidable.not_not] at hc); first | (exfalso; omega) | (try simp [hc, hb, ht]))))
       all_goals (clear hK; clear K))
    | (with_reducible refine wp_condE ?_
       refine ⟨_, rfl, ?_, ?_⟩ <;> (intro hc; (try simp at hc); (all_goals first | (exfalso; omega) | skip))))
  all_goals first | (exfalso; omega) | (refine ⟨_, by simp [pf279]; rfl, ?_⟩; refine ⟨(y, (d375 c1 4).1), ?_, ?_, ?_, ?_, ?_, ?_⟩; (focus (first | (simp; done) | (simp [*]; done))); (focus (exact ma.1)); (focus (exact ma.2.1)); (focus (exact ma.2.2.1)); (focus (exact ma.2.2.2.1)); (focus (exact ma.2.2.2.2))) | skip

theorem e281_ex (b : List Int) (hb : b.length ≤ 1048576) : ∃ r : Int, Gw TT 281 [.one (.ro false (.sl 1 (b.map eb)))] = some (vi r, []) ∧ (True) := by
  suffices h0 : ∃ y, Gw TT 281 [.one (.ro false (.sl 1 (b.map eb)))] = some y ∧ ∃ r : Int, y = (vi r, []) ∧ (True) by
    obtain ⟨y, h1, r, rfl, h2⟩ := h0
    exact ⟨r, h1, h2⟩
  refine Gw_ofE (F := pf281) rfl rfl ?_
  show Wp _ pb281 _ _
  unfold pb281
  repeat' (first
    | with_reducible (first | refine wp_seq ?_ | refine wp_blk ?_ | refine wp_skip ?_ | refine wp_exit ?_ | refine wp_ret ?_ | refine seqQ_norm ?_ | refine seqQ_ret ?_ | refine seqQ_exit ?_ | refine blkQ_norm ?_ | refine blkQ_ret ?_ | refine blkQ_exit ?_ | refine loopQ_norm ?_ | refine loopQ_exit ?_ | refine loopQ_ret ?_ | refine endQ_ret ?_ | refine endQ_norm ?_ | refine endE_ret ?_ | refine endE_norm ?_ | refine endI_ret ?_ | refine endI_norm ?_)
    | (with_reducible refine wp_regK fun K hK => ?_
       simp[hb]
       repeat' (with_reducible first | refine hK _ ?_ | (refine psel ?_ ?_ <;> (intro hc; (try rw [Decidable.not_not] at hc); first | (exfalso; omega) | (try simp [hc, hb]))))
       all_goals (clear hK; clear K))
    | (with_reducible refine wp_condE ?_
       refine ⟨_, rfl, ?_, ?_⟩ <;> (intro hc; (try simp at hc); (all_goals first | (exfalso; omega) | skip))))
  all_goals first | (exfalso; omega) | (refine ⟨_, by simp [pf281]; rfl, ?_⟩; exact ⟨_, rfl, trivial⟩) | skip

theorem zeroTask0 (k0 : Bool) : Gw TT 58 [.st [.ro false (di 0), .ro false (di 0), .ro false (di 0), .ro k0 (.sl 3 []), .ro false (di 0), .ro false (di 0), .ro false (di 0), .ro false (di 0), .ro false (di 0), .ro false (di 0), .ro false (di 0), .ro false (.str ⟨#[]⟩), .ro k0 (.sl 7 []), .ro false (di 0), .ro k0 (.sl 1 []), .ro false (di 0), .ro false (di 0), .ro k0 (.sl 5 []), .ro false (di 0), .ro false (di 0), .ro false (di 0), .ro false (di 0), .ro false (di 0), .ro false (.bool false), .ro k0 (.sl 2 [])], vi 0] = some (vb true, []) := by
  have q := t58 k0 0 0 0 [] 0 0 0 0 0 0 0 ⟨#[]⟩ [] 0 [] 0 0 [] 0 0 0 0 0 false [] 0 (by simp) (fun y hy => by simp at hy) (by simp [bnil_size]) (by simp) (by simp [XPred.sms]) (by simp) (by simp) (by simp) (fun y hy => by simp at hy)
  have w : taskOkB (headB 0 0 0 0 0 0 0 0 0 0 0 0) [] (tailB 0 0 0 (bareB 0 0 [] 0 (noQ 0 0 0 0 0 0 ⟨#[]⟩ [] 0 []) 0 0 [] 0 0 0 0 0 false [])) = true := by
    simp [taskOkB, headB, tailB, bareB, noQ, mayB, refsB]
  simp only [List.map_nil, List.length_nil] at q
  rw [w] at q
  exact q

theorem zeroTask4 (k0 : Bool) : Gw TT 58 [.st [.ro false (di 0), .ro false (di 0), .ro false (di 0), .ro k0 (.sl 3 []), .ro false (di 0), .ro false (di 0), .ro false (di 0), .ro false (di 0), .ro false (di 0), .ro false (di 0), .ro false (di 0), .ro false (.str ⟨#[]⟩), .ro k0 (.sl 7 []), .ro false (di 0), .ro k0 (.sl 1 []), .ro false (di 0), .ro false (di 0), .ro k0 (.sl 5 []), .ro false (di 0), .ro false (di 0), .ro false (di 0), .ro false (di 0), .ro false (di 0), .ro false (.bool false), .ro k0 (.sl 2 [])], vi 4] = some (vb true, []) := by
  have q := t58 k0 0 0 0 [] 0 0 0 0 0 0 0 ⟨#[]⟩ [] 0 [] 0 0 [] 0 0 0 0 0 false [] 4 (by simp) (fun y hy => by simp at hy) (by simp [bnil_size]) (by simp) (by simp [XPred.sms]) (by simp) (by simp) (by simp) (fun y hy => by simp at hy)
  have w : taskOkB (headB 4 0 0 0 0 0 0 0 0 0 0 0) [] (tailB 4 0 0 (bareB 0 0 [] 0 (noQ 0 0 0 0 0 0 ⟨#[]⟩ [] 0 []) 0 0 [] 0 0 0 0 0 false [])) = true := by
    simp [taskOkB, headB, tailB, bareB, noQ, mayB, refsB]
  simp only [List.map_nil, List.length_nil] at q
  rw [w] at q
  exact q

theorem zeroTask5 (k0 : Bool) : Gw TT 58 [.st [.ro false (di 0), .ro false (di 0), .ro false (di 0), .ro k0 (.sl 3 []), .ro false (di 0), .ro false (di 0), .ro false (di 0), .ro false (di 0), .ro false (di 0), .ro false (di 0), .ro false (di 0), .ro false (.str ⟨#[]⟩), .ro k0 (.sl 7 []), .ro false (di 0), .ro k0 (.sl 1 []), .ro false (di 0), .ro false (di 0), .ro k0 (.sl 5 []), .ro false (di 0), .ro false (di 0), .ro false (di 0), .ro false (di 0), .ro false (di 0), .ro false (.bool false), .ro k0 (.sl 2 [])], vi 5] = some (vb false, []) := by
  have q := t58 k0 0 0 0 [] 0 0 0 0 0 0 0 ⟨#[]⟩ [] 0 [] 0 0 [] 0 0 0 0 0 false [] 5 (by simp) (fun y hy => by simp at hy) (by simp [bnil_size]) (by simp) (by simp [XPred.sms]) (by simp) (by simp) (by simp) (fun y hy => by simp at hy)
  have w : taskOkB (headB 5 0 0 0 0 0 0 0 0 0 0 0) [] (tailB 5 0 0 (bareB 0 0 [] 0 (noQ 0 0 0 0 0 0 ⟨#[]⟩ [] 0 []) 0 0 [] 0 0 0 0 0 false [])) = false := by
    simp [taskOkB, headB, tailB, bareB, noQ, mayB, refsB]
  simp only [List.map_nil, List.length_nil] at q
  rw [w] at q
  exact q

theorem t139 (code : List Int) (hok_code : code.length ≤ 9223372036854775807) : Gw TT 139 [.one (.ro false (.sl 1 (code.map eb)))] = some (vb true, []) := by
  refine Gw_of (F := pf139) rfl rfl ?_
  show Wp _ pb139 _ _
  unfold pb139
  by_cases hb : code.length ≤ 1048576
  · have hbg : ¬ (1048576 < (code.length : Int)) := by omega
    obtain ⟨⟨y, i⟩, g1, m1, r2, m3, m4, m5⟩ := e292_ex code hb
    obtain ⟨⟨x, j⟩, g2, n1, n2, n3, n4, n5⟩ := e279_ex code hb
    obtain ⟨n, g3, _⟩ := e281_ex code hb
    simp only at g1 m1 r2 m3 m4 m5 g2 n1 n2 n3 n4 n5 g3
    have r1 : y.R.length ≤ 1048576 := by omega
    have m6 := m3.1
    rw [XPred.sm_eq] at m6
    have r3 : y.Q.P.V.S.size ≤ 1048576 := m6.1
    have r4 : y.Q.P.L.length ≤ 1048576 := m6.2.1
    have r5 : XPred.sms y.Q.P.L := m6.2.2
    have r6 : y.Q.Out.length ≤ 1048576 := m3.2
    have r7 : y.L.length ≤ 1048576 := by omega
    have r8 : y.Got.length ≤ 1048576 := by rw [m5]; simp
    have r9 : XRow.sms y.Got := by rw [m5]; intro z hz; simp at hz
    have s7 : x.L.length ≤ 1048576 := by omega
    by_cases z : y.Op = 0
    · have hl : looksB 0 y.Pc = false := by simp [looksB]
      have hh : hasTsB 0 y.Pc = false := by simp [hasTsB]
      repeat' (first
        | with_reducible (first | refine wp_seq ?_ | refine wp_blk ?_ | refine wp_skip ?_ | refine wp_exit ?_ | refine wp_ret ?_ | refine seqQ_norm ?_ | refine seqQ_ret ?_ | refine seqQ_exit ?_ | refine blkQ_norm ?_ | refine blkQ_ret ?_ | refine blkQ_exit ?_ | refine loopQ_norm ?_ | refine loopQ_exit ?_ | refine loopQ_ret ?_ | refine endQ_ret ?_ | refine endQ_norm ?_ | refine endE_ret ?_ | refine endE_norm ?_ | refine endI_ret ?_ | refine endI_norm ?_)
        | (with_reducible refine wp_regK fun K hK => ?_
           simp[hok_code, hbg, g1, g2, g3, r1, r2, r3, r4, r5, r6, r7, r8, r9, s7, zeroTask0, zeroTask4, zeroTask5, z, hl, hh]
           repeat' (with_reducible first | refine hK _ ?_ | (refine psel ?_ ?_ <;> (intro hc; (try rw [Decidable.not_not] at hc); first | (exfalso; omega) | (try simp [hc, hok_code, hbg, g1, g2, g3, r1, r2, r3, r4, r5, r6, r7, r8, r9, s7, zeroTask0, zeroTask4, zeroTask5, z, hl, hh]))))
           all_goals (clear hK; clear K))
        | (with_reducible refine wp_condE ?_
           refine ⟨_, rfl, ?_, ?_⟩ <;> (intro hc; (try simp at hc); (all_goals first | (exfalso; omega) | skip))))
      all_goals first | (simp [pf139]; done) | (exfalso; omega) | skip
    · have zb : (y.Op == 0) = false := by simpa using z
      cases hh : hasTsB y.Op y.Pc with
      | true =>
        have hl : looksB y.Op y.Pc = true := by
          unfold hasTsB at hh
          unfold looksB
          simp only [Bool.and_eq_true, beq_iff_eq, decide_eq_true_eq] at hh
          obtain ⟨o1, o2⟩ := hh
          simp [o1]; omega
        repeat' (first
          | with_reducible (first | refine wp_seq ?_ | refine wp_blk ?_ | refine wp_skip ?_ | refine wp_exit ?_ | refine wp_ret ?_ | refine seqQ_norm ?_ | refine seqQ_ret ?_ | refine seqQ_exit ?_ | refine blkQ_norm ?_ | refine blkQ_ret ?_ | refine blkQ_exit ?_ | refine loopQ_norm ?_ | refine loopQ_exit ?_ | refine loopQ_ret ?_ | refine endQ_ret ?_ | refine endQ_norm ?_ | refine endE_ret ?_ | refine endE_norm ?_ | refine endI_ret ?_ | refine endI_norm ?_)
          | (with_reducible refine wp_regK fun K hK => ?_
             simp[hok_code, hbg, g1, g2, g3, r1, r2, r3, r4, r5, r6, r7, r8, r9, s7, zeroTask0, zeroTask4, zeroTask5, zb, hl, hh]
             repeat' (with_reducible first | refine hK _ ?_ | (refine psel ?_ ?_ <;> (intro hc; (try rw [Decidable.not_not] at hc); first | (exfalso; omega) | (try simp [hc, hok_code, hbg, g1, g2, g3, r1, r2, r3, r4, r5, r6, r7, r8, r9, s7, zeroTask0, zeroTask4, zeroTask5, zb, hl, hh]))))
             all_goals (clear hK; clear K))
          | (with_reducible refine wp_condE ?_
             refine ⟨_, rfl, ?_, ?_⟩ <;> (intro hc; (try simp at hc); (all_goals first | (exfalso; omega) | skip))))
        all_goals first | (simp [pf139]; done) | (exfalso; omega) | skip
      | false =>
        cases hl : looksB y.Op y.Pc with
        | true =>
          repeat' (first
            | with_reducible (first | refine wp_seq ?_ | refine wp_blk ?_ | refine wp_skip ?_ | refine wp_exit ?_ | refine wp_ret ?_ | refine seqQ_norm ?_ | refine seqQ_ret ?_ | refine seqQ_exit ?_ | refine blkQ_norm ?_ | refine blkQ_ret ?_ | refine blkQ_exit ?_ | refine loopQ_norm ?_ | refine loopQ_exit ?_ | refine loopQ_ret ?_ | refine endQ_ret ?_ | refine endQ_norm ?_ | refine endE_ret ?_ | refine endE_norm ?_ | refine endI_ret ?_ | refine endI_norm ?_)
            | (with_reducible refine wp_regK fun K hK => ?_
               simp[hok_code, hbg, g1, g2, g3, r1, r2, r3, r4, r5, r6, r7, r8, r9, s7, zeroTask0, zeroTask4, zeroTask5, zb, hl, hh]
               repeat' (with_reducible first | refine hK _ ?_ | (refine psel ?_ ?_ <;> (intro hc; (try rw [Decidable.not_not] at hc); first | (exfalso; omega) | (try simp [hc, hok_code, hbg, g1, g2, g3, r1, r2, r3, r4, r5, r6, r7, r8, r9, s7, zeroTask0, zeroTask4, zeroTask5, zb, hl, hh]))))
               all_goals (clear hK; clear K))
            | (with_reducible refine wp_condE ?_
               refine ⟨_, rfl, ?_, ?_⟩ <;> (intro hc; (try simp at hc); (all_goals first | (exfalso; omega) | skip))))
          all_goals first | (simp [pf139]; done) | (exfalso; omega) | skip
        | false =>
          repeat' (first
            | with_reducible (first | refine wp_seq ?_ | refine wp_blk ?_ | refine wp_skip ?_ | refine wp_exit ?_ | refine wp_ret ?_ | refine seqQ_norm ?_ | refine seqQ_ret ?_ | refine seqQ_exit ?_ | refine blkQ_norm ?_ | refine blkQ_ret ?_ | refine blkQ_exit ?_ | refine loopQ_norm ?_ | refine loopQ_exit ?_ | refine loopQ_ret ?_ | refine endQ_ret ?_ | refine endQ_norm ?_ | refine endE_ret ?_ | refine endE_norm ?_ | refine endI_ret ?_ | refine endI_norm ?_)
            | (with_reducible refine wp_regK fun K hK => ?_
               simp[hok_code, hbg, g1, g2, g3, r1, r2, r3, r4, r5, r6, r7, r8, r9, s7, zeroTask0, zeroTask4, zeroTask5, zb, hl, hh]
               repeat' (with_reducible first | refine hK _ ?_ | (refine psel ?_ ?_ <;> (intro hc; (try rw [Decidable.not_not] at hc); first | (exfalso; omega) | (try simp [hc, hok_code, hbg, g1, g2, g3, r1, r2, r3, r4, r5, r6, r7, r8, r9, s7, zeroTask0, zeroTask4, zeroTask5, zb, hl, hh]))))
               all_goals (clear hK; clear K))
            | (with_reducible refine wp_condE ?_
               refine ⟨_, rfl, ?_, ?_⟩ <;> (intro hc; (try simp at hc); (all_goals first | (exfalso; omega) | skip))))
          all_goals first | (simp [pf139]; done) | (exfalso; omega) | skip
  · have hbg : 1048576 < (code.length : Int) := by omega
    repeat' (first
      | with_reducible (first | refine wp_seq ?_ | refine wp_blk ?_ | refine wp_skip ?_ | refine wp_exit ?_ | refine wp_ret ?_ | refine seqQ_norm ?_ | refine seqQ_ret ?_ | refine seqQ_exit ?_ | refine blkQ_norm ?_ | refine blkQ_ret ?_ | refine blkQ_exit ?_ | refine loopQ_norm ?_ | refine loopQ_exit ?_ | refine loopQ_ret ?_ | refine endQ_ret ?_ | refine endQ_norm ?_ | refine endE_ret ?_ | refine endE_norm ?_ | refine endI_ret ?_ | refine endI_norm ?_)
      | (with_reducible refine wp_regK fun K hK => ?_
         simp[hok_code, hbg]
         repeat' (with_reducible first | refine hK _ ?_ | (refine psel ?_ ?_ <;> (intro hc; (try rw [Decidable.not_not] at hc); first | (exfalso; omega) | (try simp [hc, hok_code, hbg]))))
         all_goals (clear hK; clear K))
      | (with_reducible refine wp_condE ?_
         refine ⟨_, rfl, ?_, ?_⟩ <;> (intro hc; (try simp at hc); (all_goals first | (exfalso; omega) | skip))))
    all_goals first | (simp [pf139]; done) | (exfalso; omega)

end Go.Proofs.Ytkgibccknlbiaaa.OM
