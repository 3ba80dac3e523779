/- What the functions answer. -/
import Derived.Test.YtcgekefbkccelaaGreatXRowAtLm0
set_option linter.all false
namespace Go.Proofs.YtcgekefbkccelaaGreat.OM
set_option maxHeartbeats 4000000
set_option maxRecDepth 100000

@[simp] theorem t491 (k0:Bool) (b:List Int) (u:Int) (h:b.length≤1048576) (hb:bytesOk b):Gw TT 491 [.one (.ro k0 (.sl 1 (b.map eb))),vi u] = some (gV (gN b u),[]):=by
  refine Ga pf491 pb491 ?_
  unfold pb491
  by_cases q1:0≤u∧u < (b.length:Int)
  · obtain ⟨m,rfl⟩:=Int.eq_ofNat_of_zero_le q1.1
    have q3:m < b.length:=by omega
    have q4:(m:Int)≤(b.length:Int):=by omega
    have q5:¬ (b.length:Int)≤(m:Int):=by omega
    refine Ud (J3 q3 q4 q5) ?_
    refine wp_loopI (σ:=Nat × Nat) (fun s => [(0,AV.v k0 (D.sl 1 (b.map eb)),none),(1,AV.v false (di (m:Nat)),none),(7,AV.v false (di (s.2:Nat)),none),(8,AV.v false (di (s.1:Nat)),none)]) (fun s => s.1≤5∧s.2 < 128 ^ s.1∧rawN true 5 (b.drop m) = rawR s.1 s.2 (rawN (s.1 == 0) (5 - s.1) (b.drop (m + s.1)))) (fun s => 5 - s.1) (0,0) (by simp) ⟨by omega,by simp,by simp [rawR]; cases rawN true 5 (b.drop m) <;> simp⟩ ?_
    rintro ⟨i,x⟩ ⟨y1,y2,y3⟩
    simp only at y1 y2 y3
    have hgn:gN b (m:Int) = (match fin5 (rawN true 5 (b.drop m)) with | some (n,k) => some (n,(m:Int) + (k:Int)) | none => none):=by
      (simp [gN,q3,getN_fin]; try rfl)
    by_cases e5:i = 5
    · subst e5
      have hnn:rawN true 5 (b.drop m) = none:=by rw [y3]; simp [rawN,rawR]
      have hgn2:gN b (m:Int) = none:=by rw [hgn,hnn]; try rfl
      unfold pl491_0
      refine Ud hgn2 ?_
      simp [pf491,hgn2]
    · cases hr:b.drop (m + i) with
      | nil =>
        have hll:=congrArg List.length hr
        simp only [List.length_drop,List.length_nil] at hll
        have hnn:rawN true 5 (b.drop m) = none:=by
          rw [y3,hr]
          have:5 - i = (4 - i) + 1:=by omega
          rw [this]; simp [rawN,rawR]
        have hgn2:gN b (m:Int) = none:=by rw [hgn,hnn]; try rfl
        have w1:IntKind.wrap .i64 ((m:Int) + (i:Int)) = (m:Int) + (i:Int):=wrap_i64 (by omega) (by omega)
        have w2:IntKind.wrap .i64 ((b.length:Int) - (m:Int)) = (b.length:Int) - (m:Int):=wrap_i64 (by omega) (by omega)
        have c1:¬ (m:Int) + (i:Int) < (b.length:Int):=by omega
        have c2:¬ (i:Int) < (b.length:Int) - (m:Int):=by omega
        unfold pl491_0
        refine Ud (J5 hgn2 w1 w2 c1 c2) ?_
        repeat intro hc
        simp [pf491,hgn2]
      | cons c r =>
        have hll:=congrArg List.length hr
        simp only [List.length_drop,List.length_cons] at hll
        have hmi:m + i < b.length:=by omega
        have hgc:b[m + i]? = some c:=by
          have:=congrArg (fun l => l[0]?) hr
          simpa using this
        have hce:b[m + i] = c:=(List.getElem?_eq_some_iff.1 hgc).2
        have hc0:=hb c (List.mem_of_getElem? hgc)
        obtain ⟨cn,rfl⟩:=Int.eq_ofNat_of_zero_le hc0.1
        have hdr:b.drop (m + (i + 1)) = r:=by
          rw [← Nat.add_assoc,← List.drop_drop,hr]; simp
        have hnx:rawN (i == 0) (5 - i) (b.drop (m + i)) = rawN (i == 0) ((4 - i) + 1) ((cn:Int) :: r):=by rw [hr,show 5 - i = (4 - i) + 1 by omega]
        have w1:IntKind.wrap .i64 ((m:Int) + (i:Int)) = (m:Int) + (i:Int):=wrap_i64 (by omega) (by omega)
        have w2:IntKind.wrap .i64 ((b.length:Int) - (m:Int)) = (b.length:Int) - (m:Int):=wrap_i64 (by omega) (by omega)
        have w3:IntKind.wrap .i64 ((m:Int) + (i:Int) + 1) = (m:Int) + (i:Int) + 1:=wrap_i64 (by omega) (by omega)
        have w4:IntKind.wrap .i64 (cn:Int) = (cn:Int):=wrap_i64 (by omega) (by omega)
        have w5:IntKind.wrap .i64 ((i:Int) + 1) = (i:Int) + 1:=wrap_i64 (by omega) (by omega)
        have c1:(m:Int) + (i:Int) < (b.length:Int):=by omega
        have c2:(i:Int) < (b.length:Int) - (m:Int):=by omega
        have c3:(i:Int) < 5:=by omega
        have c4:((m:Int) + (i:Int)).toNat = m + i:=by omega
        have c5:(0:Int)≤(m:Int) + (i:Int):=by omega
        have hpw:(128:Nat) ^ i = 2 ^ (7 * i):=by rw [Nat.pow_mul]
        have hpi:(2:Nat) ^ (7 * i)≤2 ^ 28:=Nat.pow_le_pow_right (by omega) (by omega)
        have hpi1:1≤(2:Nat) ^ (7 * i):=Nat.pos_of_ne_zero (by simp)
        obtain ⟨t,ht⟩:∃ t:Nat,t = cn % 128 * 2 ^ (7 * i):=⟨_,rfl⟩
        have htl:t≤127 * 2 ^ 28:=by rw [ht]; exact Nat.mul_le_mul (by omega) hpi
        have x7:IntKind.wrap .i64 (7 * (i:Int)) = 7 * (i:Int):=wrap_i64 (by omega) (by omega)
        have x0:¬ (7 * (i:Int) < 0):=by omega
        have x1:(7 * (i:Int)).toNat = 7 * i:=by omega
        have x2:min (7 * i) IntKind.i64.bits = 7 * i:=by simp [IntKind.bits]; omega
        have xt:(cn:Int).tmod 128 * 2 ^ (7 * i) = (t:Int):=by rw [Int.tmod_eq_emod_of_nonneg (by omega),ht]; simp
        have x3:IntKind.wrap .i64 ((cn:Int).tmod 128 * 2 ^ (7 * i)) = (t:Int):=by rw [xt]; exact wrap_i64 (by omega) (by omega)
        have x4:IntKind.wrap .i64 ((x:Int) + (t:Int)) = (x:Int) + (t:Int):=wrap_i64 (by omega) (by omega)
        have x6:(2:Nat) ^ (7 * (i + 1)) = 128 * 2 ^ (7 * i):=by rw [show 7 * (i + 1) = 7 * i + 7 by omega,Nat.pow_add]; omega
        have hst:x + t < 128 ^ (i + 1):=by
          have h1:t≤127 * 2 ^ (7 * i):=by rw [ht]; exact Nat.mul_le_mul (by omega) (Nat.le_refl _)
          rw [Nat.pow_succ,hpw]; rw [hpw] at y2; omega
        have a0:(2:Nat) ^ IntKind.i64.bits = 18446744073709551616:=by simp [IntKind.bits]
        have a1:x % 2 ^ IntKind.i64.bits = x:=by rw [a0]; exact Nat.mod_eq_of_lt (by rw [hpw] at y2; omega)
        have a2:cn % 2 ^ IntKind.i64.bits = cn:=by rw [a0]; exact Nat.mod_eq_of_lt (by omega)
        have a3:127 % 2 ^ IntKind.i64.bits = 127:=by rw [a0]
        have a4:cn &&& 127 = cn % 128:=by rw [show (127:Nat) = 2 ^ 7 - 1 by rfl,Nat.and_two_pow_sub_one_eq_mod]
        have a5:IntKind.wrap .i64 ((cn:Int) % 128) = (cn:Int) % 128:=wrap_i64 (by omega) (by omega)
        have a6:IntKind.wrap .i64 ((cn:Int) % 128 * 2 ^ (7 * i)) = (t:Int):=by rw [← Int.tmod_eq_emod_of_nonneg (by omega)]; exact x3
        have a7:(t:Int) % 2 ^ IntKind.i64.bits = (t:Int):=by rw [show (2:Int) ^ IntKind.i64.bits = 18446744073709551616 by simp [IntKind.bits]]; omega
        have a9:t % 2 ^ IntKind.i64.bits = t:=by rw [a0]; omega
        have a8:x ||| t = x + t:=by
          rw [hpw] at y2
          rw [ht,Nat.mul_comm,Nat.or_comm,← Nat.two_pow_add_eq_or_of_lt y2,Nat.add_comm]
        by_cases c6:128≤cn
        · have c7:(128:Int)≤(cn:Int):=by omega
          have c8:(127:Int) < (cn:Int):=by omega
          have hnext:rawN true 5 (b.drop m) = rawR (i + 1) (x + t) (rawN (i + 1 == 0) (5 - (i + 1)) (b.drop (m + (i + 1)))):=by
            rw [y3,hnx,hdr,show 5 - (i + 1) = 4 - i by omega]
            simp only [rawN]
            rw [if_pos c7,show (i + 1 == 0) = false from by simp]
            cases rawN false (4 - i) r with
            | none => rfl
            | some yk =>
              obtain ⟨y,k⟩:=yk
              simp only [rawR,Option.some.injEq,Prod.mk.injEq]
              refine ⟨?_,by omega⟩
              rw [show ((cn:Int) % 128).toNat = cn % 128 by omega,ht,hpw,Nat.pow_succ,Nat.mul_add,hpw,Nat.mul_comm (2 ^ (7 * i)) (cn % 128),Nat.mul_assoc,Nat.add_assoc]
          unfold pl491_0
          refine Ud (J8 hgc hce hmi w1 w2 w3 w4 (J8 w5 c1 c2 c3 c4 c5 x7 (J8 x0 x1 x2 x3 x4 c7 c8 (J8 a1 a2 a3 a4 a5 a6 a7 (J2 a8 a9))))) ?_
          exact ⟨(i + 1,x + t),by simp,⟨by omega,hst,hnext⟩,by simp only; omega⟩
        · have c7:¬ (128:Int)≤(cn:Int):=by omega
          have c8:¬ (127:Int) < (cn:Int):=by omega
          have ht2:t = 128 ^ i * cn:=by rw [ht,hpw,Nat.mod_eq_of_lt (by omega),Nat.mul_comm]
          have hraw:rawN true 5 (b.drop m) = if 0 < i∧cn = 0 then none else some (x + t,i + 1):=by
            rw [y3,hnx]
            simp only [rawN]
            rw [if_neg c7]
            by_cases z0:0 < i∧cn = 0
            · rw [if_pos z0,if_pos ⟨by simp; omega,by omega⟩]; try rfl
            · rw [if_neg z0,if_neg (fun e => z0 ⟨by have:=e.1; simp at this; omega,by have:=e.2; omega⟩)]
              simp [rawR,ht2]
          by_cases z0:0 < i∧cn = 0
          · have hgn2:gN b (m:Int) = none:=by rw [hgn,hraw,if_pos z0]; try rfl
            obtain ⟨z1,z2⟩:=z0
            have z3:(0:Int) < (i:Int):=by omega
            unfold pl491_0
            refine Ud (J8 hgc hce hmi w1 w2 w3 w4 (J8 w5 c1 c2 c3 c4 c5 x7 (J8 x0 x1 x2 x3 x4 c7 c8 (J8 z1 z2 hgn2 a1 a2 a3 a4 (J5 a5 a6 a7 a8 a9))))) ?_ ?_
            all_goals repeat intro hc
            all_goals simp [pf491,hgn2]
          · by_cases z5:x + t≤2000000000
            · have hgn2:gN b (m:Int) = some (zagF ((x:Int) + (t:Int)),(m:Int) + (i:Int) + 1):=by
                rw [hgn,hraw,if_neg z0]
                simp [fin5,z5]; omega
              have z6:¬ (2000000000:Int) < (x:Int) + (t:Int):=by omega
              have z7:0 < i→cn ≠ 0:=fun e1 e2 => z0 ⟨e1,e2⟩
              by_cases z8:0 < i
              · have z9:=z7 z8
                unfold pl491_0
                refine Ud (J8 hgc hce hmi w1 w2 w3 w4 (J8 w5 c1 c2 c3 c4 c5 x7 (J8 x0 x1 x2 x3 x4 c7 c8 (J8 z6 z8 z9 hgn2 a1 a2 a3 (J6 a4 a5 a6 a7 a8 a9))))) ?_
                simp [pf491,hgn2]
              · unfold pl491_0
                refine Ud (J8 hgc hce hmi w1 w2 w3 w4 (J8 w5 c1 c2 c3 c4 c5 x7 (J8 x0 x1 x2 x3 x4 c7 c8 (J8 z6 z8 hgn2 a1 a2 a3 a4 (J5 a5 a6 a7 a8 a9))))) ?_ ?_
                all_goals repeat intro hc
                all_goals simp [pf491,hgn2]
            · have hgn2:gN b (m:Int) = none:=by
                rw [hgn,hraw,if_neg z0]
                simp [fin5,z5]
              have z6:(2000000000:Int) < (x:Int) + (t:Int):=by omega
              unfold pl491_0
              refine Ud (J8 hgc hce hmi w1 w2 w3 w4 (J8 w5 c1 c2 c3 c4 c5 x7 (J8 x0 x1 x2 x3 x4 c7 c8 (J8 z6 hgn2 a1 a2 a3 a4 a5 (J4 a6 a7 a8 a9))))) ?_
              simp [pf491,hgn2]
  · have hgn2:gN b u = none:=by simp [gN]; omega
    by_cases ee:u = (b.length:Int)
    · subst ee
      repeat' (first
        | with_reducible (first | refine wp_seq ?_ | refine wp_blk ?_ | refine wp_skip ?_ | refine wp_exit ?_ | refine wp_ret ?_ | refine seqQ_norm ?_ | refine seqQ_ret ?_ | refine seqQ_exit ?_ | refine blkQ_norm ?_ | refine blkQ_ret ?_ | refine blkQ_exit ?_ | refine loopQ_norm ?_ | refine loopQ_exit ?_ | refine loopQ_ret ?_ | refine endQ_ret ?_ | refine endQ_norm ?_ | refine endE_ret ?_ | refine endE_norm ?_ | refine endI_ret ?_ | refine endI_norm ?_)
        | (with_reducible refine wp_loop (c:=pl491_0) ?_
           conv => arg 2; unfold pl491_0)
        | (with_reducible refine wp_regK fun K hK => ?_
           simp[hgn2]
           repeat' (with_reducible first | refine hK _ ?_ | (refine psel ?_ ?_ <;> (intro hc; (try rw [Decidable.not_not] at hc); first | (exfalso; omega) | (try simp [hc,hgn2]))))
           all_goals (clear hK; clear K))
        | (with_reducible refine wp_condE ?_
           refine ⟨_,rfl,?_,?_⟩ <;> (intro hc; (try simp at hc); (all_goals first | (exfalso; omega) | skip))))
      simp [pf491,hgn2]
    · refine Ud hgn2 ?_
      repeat intro hc
      simp [pf491,hgn2]

def numsF (b:List Int):Nat→Int→Option (List Int × Int)
 | 0,u => some ([],u)
 | k + 1,u => match gN b u with
  | some (n,t) => match numsF b k t with
   | some (l,v) => some (n :: l,v)
   | none => none
  | none => none

def gNs (b:List Int) (u:Int):Option (List Int × Int):=match gN b u with
 | some (k,t) => if 0≤k∧k≤64 then numsF b k.toNat t else none
 | none => none

def gsV (r:Option (List Int × Int)):V:=match r with
 | some (l,t) => .tup [.one (.own (.sl 1 (l.map ei))),vi t,vb true]
 | none => .tup [.one (.own (.sl 1 [])),vi 0,vb false]
@[simp] theorem gsV_some (l:List Int) (t:Int):gsV (some (l,t)) = .tup [.one (.own (.sl 1 (l.map ei))),vi t,vb true]:=rfl
@[simp] theorem gsV_none:gsV none = .tup [.one (.own (.sl 1 [])),vi 0,vb false]:=rfl

def preL {α:Type} (a:List α) (r:Option (List α × Int)):Option (List α × Int):=match r with
 | some (l,v) => some (a ++ l,v)
 | none => none
@[simp] theorem preL_none {α:Type} (a:List α):preL a none = none:=rfl
@[simp] theorem preL_some {α:Type} (a l:List α) (v:Int):preL a (some (l,v)) = some (a ++ l,v):=rfl
theorem preL_nil {α:Type} (r:Option (List α × Int)):preL [] r = r:=by cases r <;> rfl

theorem numsF_some {b:List Int} {a:List Int} {k:Nat} {u n t:Int} (h:gN b u = some (n,t)):preL a (numsF b (k + 1) u) = preL (a ++ [n]) (numsF b k t):=by
 simp only [numsF,h]
 cases numsF b k t with
 | none => rfl
 | some x => simp [preL]

theorem numsF_none {b:List Int} {a:List Int} {k:Nat} {u:Int} (h:gN b u = none):preL a (numsF b (k + 1) u) = none:=by
 simp only [numsF,h]; rfl

@[simp] theorem t494 (k0:Bool) (b:List Int) (u:Int) (h:b.length≤1048576) (hb:bytesOk b):Gw TT 494 [.one (.ro k0 (.sl 1 (b.map eb))),vi u] = some (gsV (gNs b u),[]):=by
 refine Ga pf494 pb494 ?_
 unfold pb494
 cases hg:gN b u with
 | none =>
  have hgn:gNs b u = none:=by simp [gNs,hg]
  refine Uw (J4 h hb hg hgn) ?_
  simp [pf494,hgn]
 | some q =>
  obtain ⟨K,t⟩:=q
  by_cases q1:0≤K∧K≤64
  ·obtain ⟨m,rfl⟩:=Int.eq_ofNat_of_zero_le q1.1
   have q2:(m:Int)≤64:=q1.2
   have hgs:gNs b u = numsF b m t:=by simp [gNs,hg]; intro e; omega
   refine Uw (J4 h hb hg q2) ?_
   refine wp_loopI (σ:=List Int × (Nat × Int)) (fun s => [(0,AV.v k0 (D.sl 1 (b.map eb)),none),(1,AV.v false (di s.2.2),none),(7,AV.v false (di (m:Nat)),none),(9,AV.pl 9 0 [],some (Rt.vir [C.own (D.sl 1 ((s.1).map ei))])),(10,AV.v false (di (s.1.length:Nat)),none)]) (fun s => s.1.length + s.2.1 = m∧gNs b u = preL s.1 (numsF b s.2.1 s.2.2)) (fun s => s.2.1) ([],(m,t)) (by simp) ⟨by simp,by rw [preL_nil]; exact hgs⟩ ?_
   rintro ⟨a,⟨i,v⟩⟩ ⟨y1,y2⟩
   simp only at y1 y2
   have hq:(a.length + 1) * 8≤70368744177664:=by omega
   cases i with
   | zero =>
    have c1:¬ (a.length:Int) < (m:Int):=by omega
    simp only [numsF,preL_some,List.append_nil] at y2
    unfold pl494_0
    refine Uw (J2 c1 y2) ?_
    simp [pf494,y2]
   | succ i =>
    have c1:(a.length:Int) < (m:Int):=by omega
    have hw:=Wi ((a.length:Int) + 1)
    cases hv:gN b v with
    | none =>
     rw [numsF_none hv] at y2
     unfold pl494_0
     refine Uw (J7 h hb c1 hv hw hq y2) ?_
     simp [pf494,y2]
    | some q =>
     obtain ⟨n,t2⟩:=q
     rw [numsF_some hv] at y2
     unfold pl494_0
     refine Uw (J6 h hb c1 hv hw hq) ?_
     exact ⟨(a ++ [n],(i,t2)),by simp,⟨by simp; omega,y2⟩,by simp⟩
  ·have hgn:gNs b u = none:=by simp [gNs,hg,q1]
   refine Uw (J4 h hb hg hgn) ?_
   repeat intro hc
   simp [pf494,hgn]

@[simp] theorem t490 (k0:Bool) (b:List Int) (u:Int) (h:b.length≤1048576) (hb:bytesOk b):Gw TT 490 [.one (.ro k0 (.sl 1 (b.map eb))),vi u] = some (gsV (gNs b u),[]):=by
 refine Ga pf490 pb490 ?_
 unfold pb490
 cases hg:gN b u with
 | none =>
  have hgn:gNs b u = none:=by simp [gNs,hg]
  refine Uw (J4 h hb hg hgn) ?_
  simp [pf490,hgn]
 | some q =>
  obtain ⟨K,t⟩:=q
  by_cases q1:0≤K∧K≤64
  ·obtain ⟨m,rfl⟩:=Int.eq_ofNat_of_zero_le q1.1
   have q2:(m:Int)≤64:=q1.2
   have hgs:gNs b u = numsF b m t:=by simp [gNs,hg]; intro e; omega
   refine Uw (J4 h hb hg q2) ?_
   refine wp_loopI (σ:=List Int × (Nat × Int)) (fun s => [(0,AV.v k0 (D.sl 1 (b.map eb)),none),(7,AV.v false (di (m:Nat)),none),(8,AV.v false (di s.2.2),none),(10,AV.pl 10 0 [],some (Rt.vir [C.own (D.sl 1 ((s.1).map ei))])),(11,AV.v false (di (s.1.length:Nat)),none)]) (fun s => s.1.length + s.2.1 = m∧gNs b u = preL s.1 (numsF b s.2.1 s.2.2)) (fun s => s.2.1) ([],(m,t)) (by simp) ⟨by simp,by rw [preL_nil]; exact hgs⟩ ?_
   rintro ⟨a,⟨i,v⟩⟩ ⟨y1,y2⟩
   simp only at y1 y2
   have hq:(a.length + 1) * 8≤70368744177664:=by omega
   cases i with
   | zero =>
    have c1:¬ (a.length:Int) < (m:Int):=by omega
    simp only [numsF,preL_some,List.append_nil] at y2
    unfold pl490_0
    refine Uw (J2 c1 y2) ?_
    simp [pf490,y2]
   | succ i =>
    have c1:(a.length:Int) < (m:Int):=by omega
    have hw:=Wi ((a.length:Int) + 1)
    cases hv:gN b v with
    | none =>
     rw [numsF_none hv] at y2
     unfold pl490_0
     refine Uw (J7 h hb c1 hv hw hq y2) ?_
     simp [pf490,y2]
    | some q =>
     obtain ⟨n,t2⟩:=q
     rw [numsF_some hv] at y2
     unfold pl490_0
     refine Uw (J6 h hb c1 hv hw hq) ?_
     exact ⟨(a ++ [n],(i,t2)),by simp,⟨by simp; omega,y2⟩,by simp⟩
  ·have hgn:gNs b u = none:=by simp [gNs,hg,q1]
   refine Uw (J4 h hb hg hgn) ?_
   repeat intro hc
   simp [pf490,hgn]

def lenTab:ByteArray:=⟨#[0,1,2,2,3,3,3,3,4,4,4,4,4,4,4,4,5,5,5,5,5,5,5,5,5,5,5,5,5,5,5,5,6,6,6,6,6,6,6,6,6,6,6,6,6,6,6,6,6,6,6,6,6,6,6,6,6,6,6,6,6,6,6,6,7,7,7,7,7,7,7,7,7,7,7,7,7,7,7,7,7,7,7,7,7,7,7,7,7,7,7,7,7,7,7,7,7,7,7,7,7,7,7,7,7,7,7,7,7,7,7,7,7,7,7,7,7,7,7,7,7,7,7,7,7,7,7,7,8,8,8,8,8,8,8,8,8,8,8,8,8,8,8,8,8,8,8,8,8,8,8,8,8,8,8,8,8,8,8,8,8,8,8,8,8,8,8,8,8,8,8,8,8,8,8,8,8,8,8,8,8,8,8,8,8,8,8,8,8,8,8,8,8,8,8,8,8,8,8,8,8,8,8,8,8,8,8,8,8,8,8,8,8,8,8,8,8,8,8,8,8,8,8,8,8,8,8,8,8,8,8,8,8,8,8,8,8,8,8,8,8,8,8,8,8,8,8,8,8,8,8,8,8,8,8,8]⟩

def widN (x:Nat):Nat:=if h:x = 0 then 0 else widN (x / 2) + 1
termination_by x
decreasing_by omega

theorem widN_zero:widN 0 = 0:=by rw [widN]; simp
theorem widN_pos {x:Nat} (h:x ≠ 0):widN x = widN (x / 2) + 1:=by rw [widN]; simp [h]

theorem widN_div:∀ (k x:Nat),2 ^ k≤x→widN x = k + widN (x / 2 ^ k)
 | 0,x,_ => by simp
 | k + 1,x,h => by
  have h1:2 ^ k≤x / 2:=by rw [Nat.pow_succ] at h; omega
  have h2:=Nat.two_pow_pos k
  rw [widN_pos (by omega),widN_div k (x / 2) h1,Nat.div_div_eq_div_mul,Nat.pow_succ,Nat.mul_comm 2]; omega

def bitsF:Nat→Nat→Nat
 | 0,_ => 0
 | f + 1,x => if x = 0 then 0 else bitsF f (x / 2) + 1
theorem bitsF_wid:∀ (f x:Nat),x < 2 ^ f→bitsF f x = widN x
 | 0,x,h => by simp at h; subst h; simp [bitsF,widN_zero]
 | f + 1,x,h => by
  simp only [bitsF]
  by_cases h0:x = 0
  ·subst h0; simp [widN_zero]
  ·rw [if_neg h0,widN_pos h0,bitsF_wid f (x / 2) (by rw [Nat.pow_succ] at h; omega)]

theorem lenTab_all:∀ i:Fin 256,lenTab.data.toList[i.val]? = some (UInt8.ofNat (bitsF 8 i.val)):=by decide +kernel
theorem widN_le:∀ (f x:Nat),x < 2 ^ f→widN x≤f
 | 0,x,h => by simp at h; subst h; simp [widN_zero]
 | f + 1,x,h => by
  by_cases h0:x = 0
  ·subst h0; simp [widN_zero]
  ·rw [widN_pos h0]
   have:=widN_le f (x / 2) (by rw [Nat.pow_succ] at h; omega)
   omega
theorem lenTab_at {i:Nat} (h:i < 256):lenTab.toList[i]? = some (UInt8.ofNat (widN i)):=by
 rw [ByteArray.toList_eq]
 have:=lenTab_all ⟨i,h⟩
 simp only at this
 rw [this,bitsF_wid 8 i (by omega)]
theorem lenTab_val {i:Nat} (h:i < 256):(UInt8.ofNat (widN i)).toNat = widN i:=by
 have:=widN_le 8 i (by omega)
 simp; omega

theorem t594 (x:Nat) (h:x < 2147483648):Gw TT 594 [.one (.ro false (.int .u64 (x:Int)))] = some (vi ((widN x:Nat):Int),[]):=by
 refine Ga pf594 pb594 ?_
 unfold pb594
 rw [show (⟨#[0,1,2,2,3,3,3,3,4,4,4,4,4,4,4,4,5,5,5,5,5,5,5,5,5,5,5,5,5,5,5,5,6,6,6,6,6,6,6,6,6,6,6,6,6,6,6,6,6,6,6,6,6,6,6,6,6,6,6,6,6,6,6,6,7,7,7,7,7,7,7,7,7,7,7,7,7,7,7,7,7,7,7,7,7,7,7,7,7,7,7,7,7,7,7,7,7,7,7,7,7,7,7,7,7,7,7,7,7,7,7,7,7,7,7,7,7,7,7,7,7,7,7,7,7,7,7,7,8,8,8,8,8,8,8,8,8,8,8,8,8,8,8,8,8,8,8,8,8,8,8,8,8,8,8,8,8,8,8,8,8,8,8,8,8,8,8,8,8,8,8,8,8,8,8,8,8,8,8,8,8,8,8,8,8,8,8,8,8,8,8,8,8,8,8,8,8,8,8,8,8,8,8,8,8,8,8,8,8,8,8,8,8,8,8,8,8,8,8,8,8,8,8,8,8,8,8,8,8,8,8,8,8,8,8,8,8,8,8,8,8,8,8,8,8,8,8,8,8,8,8,8,8,8,8,8]⟩:ByteArray) = lenTab from rfl]
 have e1:¬ (4294967296:Int)≤(x:Int):=by omega
 have m1:min 16 IntKind.u64.bits = 16:=by simp [IntKind.bits]
 have m2:min 8 IntKind.u64.bits = 8:=by simp [IntKind.bits]
 by_cases c1:65536≤x
 ·have c2:(65536:Int)≤(x:Int):=by omega
  obtain ⟨y,hy⟩:∃ y,y = x / 65536:=⟨_,rfl⟩
  have f1:(x:Int).fdiv 65536 = (y:Int):=by rw [Int.fdiv_eq_ediv_of_nonneg _ (by omega)]; omega
  have w1:widN x = 16 + widN y:=by rw [hy]; exact widN_div 16 x (by omega)
  by_cases d1:256≤y
  ·have d2:(256:Int)≤(y:Int):=by omega
   obtain ⟨z,hz⟩:∃ z,z = y / 256:=⟨_,rfl⟩
   have f2:(y:Int).fdiv 256 = (z:Int):=by rw [Int.fdiv_eq_ediv_of_nonneg _ (by omega)]; omega
   have w2:widN y = 8 + widN z:=by rw [hz]; exact widN_div 8 y (by omega)
   have z1:IntKind.wrap .u8 ((z:Nat):Int) = ((z:Nat):Int):=wrap_u8 (by omega) (by omega)
   have z2:=lenTab_at (i:=z) (by omega)
   have z3:=lenTab_val (i:=z) (by omega)
   have z4:=widN_le 8 (z) (by omega)
   have z5:IntKind.wrap .i64 ((widN (z):Nat):Int) = ((widN (z):Nat):Int):=wrap_i64 (by omega) (by omega)
   have z6:IntKind.wrap .i64 ((24:Int) + ((widN (z):Nat):Int)) = ((widN x:Nat):Int):=by rw [wrap_i64 (by omega) (by omega)]; omega
   generalize hwx:widN x = wx at *
   generalize hws:widN (z) = ws at *
   refine Ua (J8 c2 d2 f1 f2 m1 m2 z1 (J5 z2 z3 z5 z6 e1)) ?_
   simp [pf594, *]
  ·have d2:¬ (256:Int)≤(y:Int):=by omega
   have z1:IntKind.wrap .u8 ((y:Nat):Int) = ((y:Nat):Int):=wrap_u8 (by omega) (by omega)
   have z2:=lenTab_at (i:=y) (by omega)
   have z3:=lenTab_val (i:=y) (by omega)
   have z4:=widN_le 8 (y) (by omega)
   have z5:IntKind.wrap .i64 ((widN (y):Nat):Int) = ((widN (y):Nat):Int):=wrap_i64 (by omega) (by omega)
   have z6:IntKind.wrap .i64 ((16:Int) + ((widN (y):Nat):Int)) = ((widN x:Nat):Int):=by rw [wrap_i64 (by omega) (by omega)]; omega
   generalize hwx:widN x = wx at *
   generalize hws:widN (y) = ws at *
   refine Ua (J8 c2 d2 f1 m1 m2 z1 z2 (J4 z3 z5 z6 e1)) ?_
   simp [pf594, *]
 ·have c2:¬ (65536:Int)≤(x:Int):=by omega
  by_cases d1:256≤x
  ·have d2:(256:Int)≤(x:Int):=by omega
   obtain ⟨z,hz⟩:∃ z,z = x / 256:=⟨_,rfl⟩
   have f2:(x:Int).fdiv 256 = (z:Int):=by rw [Int.fdiv_eq_ediv_of_nonneg _ (by omega)]; omega
   have w2:widN x = 8 + widN z:=by rw [hz]; exact widN_div 8 x (by omega)
   have z1:IntKind.wrap .u8 ((z:Nat):Int) = ((z:Nat):Int):=wrap_u8 (by omega) (by omega)
   have z2:=lenTab_at (i:=z) (by omega)
   have z3:=lenTab_val (i:=z) (by omega)
   have z4:=widN_le 8 (z) (by omega)
   have z5:IntKind.wrap .i64 ((widN (z):Nat):Int) = ((widN (z):Nat):Int):=wrap_i64 (by omega) (by omega)
   have z6:IntKind.wrap .i64 ((8:Int) + ((widN (z):Nat):Int)) = ((widN x:Nat):Int):=by rw [wrap_i64 (by omega) (by omega)]; omega
   generalize hwx:widN x = wx at *
   generalize hws:widN (z) = ws at *
   refine Ua (J8 c2 d2 f2 m1 m2 z1 z2 (J4 z3 z5 z6 e1)) ?_
   simp [pf594, *]
  ·have d2:¬ (256:Int)≤(x:Int):=by omega
   have z1:IntKind.wrap .u8 ((x:Nat):Int) = ((x:Nat):Int):=wrap_u8 (by omega) (by omega)
   have z2:=lenTab_at (i:=x) (by omega)
   have z3:=lenTab_val (i:=x) (by omega)
   have z4:=widN_le 8 (x) (by omega)
   have z5:IntKind.wrap .i64 ((widN (x):Nat):Int) = ((widN (x):Nat):Int):=wrap_i64 (by omega) (by omega)
   have z6:IntKind.wrap .i64 ((0:Int) + ((widN (x):Nat):Int)) = ((widN x:Nat):Int):=by rw [wrap_i64 (by omega) (by omega)]; omega
   generalize hwx:widN x = wx at *
   generalize hws:widN (x) = ws at *
   refine Ua (J8 c2 d2 m1 m2 z1 z2 z3 (J3 z5 z6 e1)) ?_
   simp [pf594, *]

theorem t583 (x:Nat) (h:x < 2147483648):Gw TT 583 [.one (.ro false (.int .u64 (x:Int)))] = some (vi ((widN x:Nat):Int),[]):=by
 refine Ga pf583 pb583 ?_
 unfold pb583
 refine Ua (J2 @t594 h) ?_
 all_goals simp [pf583]

def widI (n:Int):Int:=if 0≤n∧n≤2147483647 then ((widN n.toNat:Nat):Int) else 0
theorem widI_le (n:Int):0≤widI n∧widI n≤31:=by
 unfold widI; split
 ·have:=widN_le 31 n.toNat (by omega)
  omega
 ·omega

@[simp] theorem t555 (n:Int):Gw TT 555 [vi n] = some (vi (widI n),[]):=by
 refine Ga pf555 pb555 ?_
 unfold pb555
 by_cases q:1≤n∧n≤2147483647
 ·obtain ⟨m,rfl⟩:=Int.eq_ofNat_of_zero_le (show 0≤n by omega)
  have q1:(1:Int)≤(m:Int):=q.1
  have q2:(m:Int)≤2147483647:=q.2
  have q3:m < 2147483648:=by omega
  have hw:IntKind.wrap .u64 (m:Int) = (m:Int):=by simp [IntKind.wrap,IntKind.signed,IntKind.bits]; omega
  have hi:widI (m:Int) = ((widN m:Nat):Int):=by simp [widI]; omega
  refine Uw (J5 q1 q2 hw @t583 q3) ?_
  simp [pf555,hi]
 ·have hi:widI n = 0:=by
   unfold widI; split
   ·rw [show n.toNat = 0 by omega,widN_zero]; try rfl
   ·rfl
  refine Uw Oo ?_
  repeat intro hc
  simp [pf555,hi]

@[simp] theorem t542 (n:Int):Gw TT 542 [vi n] = some (vi (widI n),[]):=by
 refine Ga pf542 pb542 ?_
 unfold pb542
 by_cases q:0≤n∧n≤2147483647
 ·obtain ⟨m,rfl⟩:=Int.eq_ofNat_of_zero_le q.1
  have q2:(m:Int)≤2147483647:=q.2
  have hi:widI (m:Int) = ((widN m:Nat):Int):=by simp [widI]; omega
  have hw0:=widN_le 31 m (by omega)
  refine Uw q2 ?_
  refine wp_loopI (σ:=Nat × Nat) (fun s => [(3,AV.v false (di (s.1:Nat)),none),(4,AV.v false (di (s.2:Nat)),none)]) (fun s => s.1 + widN s.2 = widN m∧s.2≤m) (fun s => s.2) (0,m) (by simp) ⟨by simp,Nat.le_refl _⟩ ?_
  rintro ⟨w,x⟩ ⟨y1,y2⟩
  simp only at y1 y2
  by_cases c1:x = 0
  ·subst c1
   rw [widN_zero] at y1
   simp only [Nat.add_zero] at y1
   unfold pl542_0
   refine Uw Oo ?_
   simp [pf542,hi,y1]
  ·rw [widN_pos c1] at y1
   have c2:(0:Int) < (x:Int):=by omega
   have hw1:=Wi ((w:Int) + 1)
   have hw2:=Wi ((x:Int) / 2)
   have hw3:IntKind.wrap .i64 ((x:Int).tdiv 2) = (x:Int) / 2:=by rw [Int.tdiv_eq_ediv_of_nonneg (by omega)]; exact hw2
   unfold pl542_0
   refine Uw (J3 c2 hw1 hw3) ?_
   repeat intro hc
   exact ⟨(w + 1,x / 2),by simp [hw2],⟨by show w + 1 + widN (x / 2) = widN m; omega,by show x / 2≤m; omega⟩,by show x / 2 < x; omega⟩
 ·have hi:widI n = 0:=by simp [widI,q]
  refine Uw Oo ?_
  repeat intro hc
  simp [pf542,hi]

def wfF:Int→List Int→Int
 | w,[] => w
 | w,n :: l => wfF (if w < widI n then widI n else w) l
theorem wfF_rng:∀ (l:List Int) (w:Int),0≤w∧w≤31→0≤wfF w l∧wfF w l≤31
 | [],w,h => h
 | n :: l,w,h => by
  simp only [wfF]
  have:=widI_le n
  exact wfF_rng l _ (by split <;> omega)

@[simp] theorem t588 (k0:Bool) (l:List Int) (h:l.length≤1048576):Gw TT 588 [.one (.ro k0 (.sl 1 (l.map ei)))] = some (vi (wfF 0 l),[]):=by
 refine Ga pf588 pb588 ?_
 unfold pb588
 refine Ud Oo ?_
 refine wp_loopI (σ:=List (Int) × List (Int) × Int) (fun s => [(3,AV.v false (di s.2.2),none),(6,AV.v k0 (D.sl 1 (l.map ei)),none),(7,AV.v false (di (l.length:Nat)),none),(8,AV.v false (di ((s.1.length:Nat):Int)),none)]) (fun s => l = s.1 ++ s.2.1∧wfF s.2.2 s.2.1 = wfF 0 l) (fun s => s.2.1.length) ([],l,0) (by simp) ⟨rfl,rfl⟩ ?_
 rintro ⟨pre,rest,a⟩ ⟨h1,h2⟩
 simp only at h1 h2
 subst h1
 simp only [List.length_append,List.length_cons] at h
 rcases rest with _ | ⟨d,rest⟩
 ·unfold pl588_0
  simp only [wfF] at h2
  refine Ud Oo ?_
  simp_all [pf588]
 ·unfold pl588_0
  simp only [List.length_cons] at h
  simp only [wfF] at h2
  have hw:=Wi ((pre.length:Int) + 1)
  refine Ud hw ?_
  repeat intro hc
  (refine ⟨(pre ++ [d],rest,(if a < widI d then widI d else a)),?_,⟨?_,?_⟩,?_⟩; (focus (first | (simp; done) | (simp_all; done))); (focus (simp; done)); (focus (refine Eq.trans ?_ h2; clear h2; first | (simp [*]; done) | (simp_all; done) | (split <;> simp_all <;> omega) | (split <;> first | (exfalso; omega) | (simp_all; done)))); (focus (simp; done)))

@[simp] theorem t576 (k0:Bool) (l:List Int) (h:l.length≤1048576):Gw TT 576 [.one (.ro k0 (.sl 1 (l.map ei)))] = some (vi (wfF 0 l),[]):=by
 refine Ga pf576 pb576 ?_
 unfold pb576
 refine Ud Oo ?_
 refine wp_loopI (σ:=List (Int) × List (Int) × Int) (fun s => [(0,AV.v k0 (D.sl 1 (l.map ei)),none),(3,AV.v false (di s.2.2),none),(4,AV.v false (di ((s.1.length:Nat):Int)),none)]) (fun s => l = s.1 ++ s.2.1∧wfF s.2.2 s.2.1 = wfF 0 l) (fun s => s.2.1.length) ([],l,0) (by simp) ⟨rfl,rfl⟩ ?_
 rintro ⟨pre,rest,a⟩ ⟨h1,h2⟩
 simp only at h1 h2
 subst h1
 simp only [List.length_append,List.length_cons] at h
 rcases rest with _ | ⟨d,rest⟩
 ·unfold pl576_0
  simp only [wfF] at h2
  refine Ud Oo ?_
  simp_all [pf576]
 ·unfold pl576_0
  simp only [List.length_cons] at h
  simp only [wfF] at h2
  have hw:=Wi ((pre.length:Int) + 1)
  refine Ud hw ?_ ?_
  all_goals repeat intro hc
  all_goals first | (refine ⟨(pre ++ [d],rest,widI d),?_,⟨?_,?_⟩,?_⟩; (focus (first | (simp; done) | (simp_all; done))); (focus (simp; done)); (focus (refine Eq.trans ?_ h2; clear h2; first | (simp [*]; done) | (simp_all; done) | (split <;> simp_all <;> omega) | (split <;> first | (exfalso; omega) | (simp_all; done)))); (focus (simp; done))) | (refine ⟨(pre ++ [d],rest,a),?_,⟨?_,?_⟩,?_⟩; (focus (first | (simp; done) | (simp_all; done))); (focus (simp; done)); (focus (refine Eq.trans ?_ h2; clear h2; first | (simp [*]; done) | (simp_all; done) | (split <;> simp_all <;> omega) | (split <;> first | (exfalso; omega) | (simp_all; done)))); (focus (simp; done)))

def fitB (w:Int):List Int→Bool
 | [] => true
 | n :: l => if (0≤n∧n≤2147483647)∧widI n≤w then fitB w l else false

@[simp] theorem t592 (k0:Bool) (l:List Int) (h:l.length≤1048576) (w:Int):Gw TT 592 [.one (.ro k0 (.sl 1 (l.map ei))),vi w] = some (vb (fitB w l && (decide (0≤w) && decide (w≤31))),[]):=by
 refine Ga pf592 pb592 ?_
 unfold pb592
 refine Ud Oo ?_
 refine wp_loopI (σ:=List (Int) × List (Int)) (fun s => [(0,AV.v k0 (D.sl 1 (l.map ei)),none),(1,AV.v false (di w),none),(5,AV.v false (di ((s.1.length:Nat):Int)),none)]) (fun s => l = s.1 ++ s.2∧fitB w s.2 = fitB w l) (fun s => s.2.length) ([],l) (by simp) ⟨rfl,rfl⟩ ?_
 rintro ⟨pre,rest⟩ ⟨h1,h2⟩
 simp only at h1 h2
 subst h1
 simp only [List.length_append,List.length_cons] at h
 rcases rest with _ | ⟨d,rest⟩
 ·unfold pl592_0
  simp only [fitB] at h2
  refine Ud Oo ?_
  simp_all [pf592]
 ·unfold pl592_0
  simp only [List.length_cons] at h
  simp only [fitB] at h2
  have hw:=Wi ((pre.length:Int) + 1)
  refine Ud hw ?_ ?_ ?_
  all_goals repeat intro hc
  all_goals first | (refine ⟨(pre ++ [d],rest),?_,⟨?_,?_⟩,?_⟩; (focus (first | (simp; done) | (simp_all; done))); (focus (simp; done)); (focus (refine Eq.trans ?_ h2; clear h2; first | (simp [*]; done) | (simp_all; done) | (split <;> simp_all <;> omega) | (split <;> first | (exfalso; omega) | (simp_all; done)))); (focus (simp; done))) | (split at h2 <;> first | (exfalso; omega) | (simp_all [pf592]; done))

def bfF (k w:Int):Int:=if (0≤k∧k≤64)∧(0≤w∧w≤31) then (k * w + 7) / 8 else 0

@[simp] theorem t581 (k w:Int):Gw TT 581 [vi k,vi w] = some (vi (bfF k w),[]):=by
 refine Ga pf581 pb581 ?_
 unfold pb581
 by_cases q:(0≤k∧k≤64)∧(0≤w∧w≤31)
 ·have hm0:0≤k * w:=Int.mul_nonneg q.1.1 q.2.1
  have hm1:k * w≤64 * 31:=Int.mul_le_mul q.1.2 q.2.2 q.2.1 (by omega)
  have hi:bfF k w = (k * w + 7) / 8:=by simp [bfF,q]
  have w1:=Wi (k * w)
  have w2:=Wi (k * w + 7)
  have w3:IntKind.wrap .i64 ((k * w + 7).tdiv 8) = (k * w + 7) / 8:=by rw [Int.tdiv_eq_ediv_of_nonneg (by omega)]; exact wrap_i64 (by omega) (by omega)
  refine Ud (J7 q.1.1 q.1.2 q.2.1 q.2.2 w1 w2 w3) ?_
  simp [pf581,hi]
 ·have hi:bfF k w = 0:=by simp [bfF]; intro _ _ _ _; exfalso; omega
  refine Ud Oo ?_ ?_
  all_goals repeat intro hc
  all_goals simp [pf581,hi]

@[simp] theorem t570 (k w:Int):Gw TT 570 [vi k,vi w] = some (vi (bfF k w),[]):=by
 refine Ga pf570 pb570 ?_
 unfold pb570
 by_cases q:(0≤k∧k≤64)∧(0≤w∧w≤31)
 ·have hm0:0≤k * w:=Int.mul_nonneg q.1.1 q.2.1
  have hm1:k * w≤64 * 31:=Int.mul_le_mul q.1.2 q.2.2 q.2.1 (by omega)
  have hi:bfF k w = (k * w + 7) / 8:=by simp [bfF,q]
  have w1:=Wi (k * w)
  have w2:=Wi (k * w + 7)
  have w3:IntKind.wrap .i64 ((k * w + 7).tdiv 8) = (k * w + 7) / 8:=by rw [Int.tdiv_eq_ediv_of_nonneg (by omega)]; exact wrap_i64 (by omega) (by omega)
  refine Ud (J7 q.1.1 q.1.2 q.2.1 q.2.2 w1 w2 w3) ?_
  simp [pf570,hi]
 ·have hi:bfF k w = 0:=by simp [bfF]; intro _ _ _ _; exfalso; omega
  refine Ud Oo ?_ ?_
  all_goals repeat intro hc
  all_goals simp [pf570,hi]

def bitN (b:List Int) (m:Nat):Nat:=match b[m / 8]? with
 | some c => c.toNat / 2 ^ (m % 8) % 2
 | none => 0
theorem bitN_le (b:List Int) (m:Nat):bitN b m≤1:=by
 unfold bitN; split <;> omega

@[simp] theorem t582 (k0:Bool) (b:List Int) (m:Nat) (h:b.length≤1048576) (hb:bytesOk b) (hm:m≤4611686018427387904):Gw TT 582 [.one (.ro k0 (.sl 1 (b.map eb))),vi (m:Nat)] = some (vi ((bitN b m:Nat):Int),[]):=by
 refine Ga pf582 pb582 ?_
 unfold pb582
 have d1:(m:Int).tdiv 8 = ((m / 8:Nat):Int):=by rw [Int.tdiv_eq_ediv_of_nonneg (by omega)]; omega
 have d2:(m:Int).tmod 8 = ((m % 8:Nat):Int):=by rw [Int.tmod_eq_emod_of_nonneg (by omega)]; omega
 have d3:=Wi ((m:Int) / 8)
 have d4:IntKind.wrap .i64 ((m:Int).tdiv 8) = (m:Int) / 8:=by rw [Int.tdiv_eq_ediv_of_nonneg (by omega)]; exact d3
 by_cases q:m / 8 < b.length
 ·obtain ⟨c,hg⟩:∃ c,b[m / 8]? = some c:=⟨_,List.getElem?_eq_getElem q⟩
  have hce:b[m / 8] = c:=(List.getElem?_eq_some_iff.1 hg).2
  have hc0:=hb c (List.mem_of_getElem? hg)
  obtain ⟨cn,rfl⟩:=Int.eq_ofNat_of_zero_le hc0.1
  have hi:bitN b m = cn / 2 ^ (m % 8) % 2:=by simp [bitN,hg]
  have q1:(m:Int) / 8 < (b.length:Int):=by omega
  have q2:¬ (b.length:Int)≤(m:Int) / 8:=by omega
  have q3:((m:Int) / 8).toNat = m / 8:=by omega
  have q4:(0:Int)≤(m:Int) / 8:=by omega
  have r0:¬ ((m:Int) % 8 < 0):=by omega
  have r1:((m:Int) % 8).toNat = m % 8:=by omega
  have r2:min (m % 8) IntKind.u8.bits = m % 8:=by simp [IntKind.bits]; omega
  have r3:min (m % 8) IntKind.i64.bits = m % 8:=by simp [IntKind.bits]; omega
  obtain ⟨v,hv⟩:∃ v,v = cn / 2 ^ (m % 8):=⟨_,rfl⟩
  have hvl:v≤255:=by rw [hv]; exact Nat.le_trans (Nat.div_le_self _ _) (by omega)
  have r4:(cn:Int).fdiv (2 ^ (m % 8)) = (v:Int):=by
   rw [Int.fdiv_eq_ediv_of_nonneg _ (Int.le_of_lt (Int.pow_pos (by omega))),hv]; simp
  have r5:v % 2 ^ IntKind.u8.bits = v:=by simp [IntKind.bits]; omega
  have r6:v % 2 ^ IntKind.i64.bits = v:=by simp [IntKind.bits]; omega
  have r7:1 % 2 ^ IntKind.u8.bits = 1:=by simp [IntKind.bits]
  have r8:1 % 2 ^ IntKind.i64.bits = 1:=by simp [IntKind.bits]
  have r9:IntKind.wrap .i64 (cn:Int) = (cn:Int):=wrap_i64 (by omega) (by omega)
  have s1:IntKind.wrap .u8 ((v:Int) % 2) = (v:Int) % 2:=wrap_u8 (by omega) (by omega)
  have s2:=Wi ((v:Int) % 2)
  rw [← hv] at hi
  refine Ud (J8 q q1 q2 q3 q4 hg hce (J8 d2 d3 d4 r0 r1 r2 r3 (J8 r4 r5 r6 r7 r8 r9 s1 s2))) ?_
  repeat intro hc
  simp [pf582,hi]
 ·have hi:bitN b m = 0:=by simp [bitN,List.getElem?_eq_none (show b.length≤m / 8 by omega)]
  have q2:(b.length:Int)≤(m:Int) / 8:=by omega
  refine Ud (J3 q2 d3 d4) ?_
  repeat intro hc
  simp [pf582,hi]

@[simp] theorem t571 (k0:Bool) (b:List Int) (m:Nat) (h:b.length≤1048576) (hb:bytesOk b) (hm:m≤4611686018427387904):Gw TT 571 [.one (.ro k0 (.sl 1 (b.map eb))),vi (m:Nat)] = some (vi ((bitN b m:Nat):Int),[]):=by
 refine Ga pf571 pb571 ?_
 unfold pb571
 have d1:(m:Int).tdiv 8 = ((m / 8:Nat):Int):=by rw [Int.tdiv_eq_ediv_of_nonneg (by omega)]; omega
 have d2:(m:Int).tmod 8 = ((m % 8:Nat):Int):=by rw [Int.tmod_eq_emod_of_nonneg (by omega)]; omega
 have d3:=Wi ((m:Int) / 8)
 have d4:IntKind.wrap .i64 ((m:Int).tdiv 8) = (m:Int) / 8:=by rw [Int.tdiv_eq_ediv_of_nonneg (by omega)]; exact d3
 by_cases q:m / 8 < b.length
 ·obtain ⟨c,hg⟩:∃ c,b[m / 8]? = some c:=⟨_,List.getElem?_eq_getElem q⟩
  have hce:b[m / 8] = c:=(List.getElem?_eq_some_iff.1 hg).2
  have hc0:=hb c (List.mem_of_getElem? hg)
  obtain ⟨cn,rfl⟩:=Int.eq_ofNat_of_zero_le hc0.1
  have hi:bitN b m = cn / 2 ^ (m % 8) % 2:=by simp [bitN,hg]
  have q1:(m:Int) / 8 < (b.length:Int):=by omega
  have q2:¬ (b.length:Int)≤(m:Int) / 8:=by omega
  have q3:((m:Int) / 8).toNat = m / 8:=by omega
  have q4:(0:Int)≤(m:Int) / 8:=by omega
  have r0:¬ ((m:Int) % 8 < 0):=by omega
  have r1:((m:Int) % 8).toNat = m % 8:=by omega
  have r2:min (m % 8) IntKind.u8.bits = m % 8:=by simp [IntKind.bits]; omega
  have r3:min (m % 8) IntKind.i64.bits = m % 8:=by simp [IntKind.bits]; omega
  obtain ⟨v,hv⟩:∃ v,v = cn / 2 ^ (m % 8):=⟨_,rfl⟩
  have hvl:v≤255:=by rw [hv]; exact Nat.le_trans (Nat.div_le_self _ _) (by omega)
  have r4:(cn:Int).fdiv (2 ^ (m % 8)) = (v:Int):=by
   rw [Int.fdiv_eq_ediv_of_nonneg _ (Int.le_of_lt (Int.pow_pos (by omega))),hv]; simp
  have r5:v % 2 ^ IntKind.u8.bits = v:=by simp [IntKind.bits]; omega
  have r6:v % 2 ^ IntKind.i64.bits = v:=by simp [IntKind.bits]; omega
  have r7:1 % 2 ^ IntKind.u8.bits = 1:=by simp [IntKind.bits]
  have r8:1 % 2 ^ IntKind.i64.bits = 1:=by simp [IntKind.bits]
  have r9:IntKind.wrap .i64 (cn:Int) = (cn:Int):=wrap_i64 (by omega) (by omega)
  have s1:IntKind.wrap .u8 ((v:Int) % 2) = (v:Int) % 2:=wrap_u8 (by omega) (by omega)
  have s2:=Wi ((v:Int) % 2)
  rw [← hv] at hi
  refine Ud (J8 q q1 q2 q3 q4 hg hce (J8 d2 d3 d4 r0 r1 r2 r3 (J8 r4 r5 r6 r7 r8 r9 s1 s2))) ?_
  repeat intro hc
  simp [pf571,hi]
 ·have hi:bitN b m = 0:=by simp [bitN,List.getElem?_eq_none (show b.length≤m / 8 by omega)]
  have q2:(b.length:Int)≤(m:Int) / 8:=by omega
  refine Ud (J3 q2 d3 d4) ?_
  repeat intro hc
  simp [pf571,hi]

def orRow (b:List Int):Nat→Nat→Nat→Nat→Nat
 | 0,_,_,a => a
 | r + 1,p,j,a => orRow b r (p + 1) (j + 1) (a ||| bitN b p * 2 ^ j)
def unpRows (b:List Int) (w:Nat):Nat→Nat→List Int
 | 0,_ => []
 | r + 1,i => ((orRow b w (i * w) 0 0:Nat):Int) :: unpRows b w r (i + 1)
def zerosB (b:List Int):Nat→Nat→Bool
 | 0,_ => true
 | r + 1,p => if bitN b p = 0 then zerosB b r (p + 1) else false
theorem unpRows_len (b:List Int) (w:Nat):∀ (r i:Nat),(unpRows b w r i).length = r
 | 0,i => rfl
 | r + 1,i => by simp [unpRows,unpRows_len b w r (i + 1)]

def unpF (b:List Int) (w k:Int):Option (List Int):=if ((0≤w∧w≤31)∧(0≤k∧k≤64))∧(b.length:Int) = bfF k w then
 (if zerosB b (8 * b.length - k.toNat * w.toNat) (k.toNat * w.toNat) = true then some (unpRows b w.toNat k.toNat 0) else none) else none

def olV (r:Option (List Int)):V:=match r with
 | some l => .tup [.one (.own (.sl 1 (l.map ei))),vb true]
 | none => .tup [.one (.own (.sl 1 [])),vb false]
@[simp] theorem olV_some (l:List Int):olV (some l) = .tup [.one (.own (.sl 1 (l.map ei))),vb true]:=rfl
@[simp] theorem olV_none:olV none = .tup [.one (.own (.sl 1 [])),vb false]:=rfl

theorem orRow_lt (b:List Int):∀ (r p j a:Nat),a < 2 ^ j→orRow b r p j a < 2 ^ (j + r)
 | 0,p,j,a,h => h
 | r + 1,p,j,a,h => by
  simp only [orRow]
  have h1:bitN b p * 2 ^ j < 2 ^ (j + 1):=by
   have:=bitN_le b p
   have h2:bitN b p * 2 ^ j≤1 * 2 ^ j:=Nat.mul_le_mul this (Nat.le_refl _)
   have:=Nat.two_pow_pos j
   rw [Nat.pow_succ]; omega
  have:=orRow_lt b r (p + 1) (j + 1) (a ||| bitN b p * 2 ^ j) (Nat.or_lt_two_pow (Nat.lt_of_lt_of_le h (Nat.pow_le_pow_right (by omega) (by omega))) h1)
  rw [show j + (r + 1) = j + 1 + r by omega]; exact this

@[simp] theorem t554 (k0:Bool) (b:List Int) (w k:Int) (h:b.length≤1048576) (hb:bytesOk b):Gw TT 554 [.one (.ro k0 (.sl 1 (b.map eb))),vi w,vi k] = some (olV (unpF b w k),[]):=by
 refine Ga pf554 pb554 ?_
 unfold pb554
 by_cases q1:0≤w∧w≤31
 ·by_cases q2:0≤k∧k≤64
  ·by_cases q3:(b.length:Int) = bfF k w
   ·obtain ⟨wn,rfl⟩:=Int.eq_ofNat_of_zero_le q1.1
    obtain ⟨kn,rfl⟩:=Int.eq_ofNat_of_zero_le q2.1
    have q4:(wn:Int)≤31:=q1.2
    have q5:(kn:Int)≤64:=q2.2
    have hbf:bfF (kn:Int) (wn:Int) = ((kn:Int) * (wn:Int) + 7) / 8:=by simp [bfF,q4,q5]
    obtain ⟨T,hT⟩:∃ T,T = kn * wn:=⟨_,rfl⟩
    have hT2:(kn:Int) * (wn:Int) = (T:Int):=by rw [hT]; simp
    have hTl:T≤64 * 31:=by rw [hT]; exact Nat.mul_le_mul (by omega) (by omega)
    have hlen:b.length = (T + 7) / 8:=by rw [hbf,hT2] at q3; omega
    have hun:unpF b (wn:Int) (kn:Int) = if zerosB b (8 * b.length - T) T = true then some (unpRows b wn kn 0) else none:=by
     unfold unpF; rw [if_pos ⟨⟨q1,q2⟩,q3⟩]; simp [hT]
    refine Ud (J5 q4 q5 q3 h hb) ?_
    refine wp_loopI (σ:=List Int × Nat) (fun s => [(0,AV.v k0 (D.sl 1 (b.map eb)),none),(1,AV.v false (di (wn:Nat)),none),(2,AV.v false (di (kn:Nat)),none),(8,AV.pl 8 0 [],some (Rt.vir [C.own (D.sl 1 ((s.1).map ei))])),(9,AV.v false (di (s.2:Nat)),none)]) (fun s => s.2≤kn∧s.1.length = s.2∧unpRows b wn kn 0 = s.1 ++ unpRows b wn (kn - s.2) s.2) (fun s => kn - s.2) ([],0) (by simp) ⟨by simp,rfl,by simp⟩ ?_
    rintro ⟨a,i⟩ ⟨y1,y2,y3⟩
    simp only at y1 y2 y3
    by_cases c1:i = kn
    ·subst c1
     have c2:¬ (i:Int) < (i:Int):=by omega
     simp only [Nat.sub_self,unpRows,List.append_nil] at y3
     have hTw:IntKind.wrap .i64 ((i:Int) * (wn:Int)) = (T:Int):=by rw [hT2]; exact wrap_i64 (by omega) (by omega)
     unfold pl554_2
     refine Ud hTw ?_
     refine wp_loopI (σ:=Nat) (fun s => [(0,AV.v k0 (D.sl 1 (b.map eb)),none),(8,AV.pl 8 0 [],some (Rt.vir [C.own (D.sl 1 ((a).map ei))])),(12,AV.v false (di (s:Nat)),none)]) (fun s => s≤8 * b.length∧zerosB b (8 * b.length - T) T = zerosB b (8 * b.length - s) s) (fun s => 8 * b.length - s) T (by simp) ⟨by omega,rfl⟩ ?_
     rintro p ⟨x1,x2⟩
     have w8:=Wi (8 * (b.length:Int))
     by_cases e1:p = 8 * b.length
     ·have e2:¬ (p:Int) < 8 * (b.length:Int):=by omega
      rw [e1,Nat.sub_self] at x2
      simp only [zerosB] at x2
      rw [if_pos x2] at hun
      unfold pl554_0
      refine Ud (J3 w8 e2 hun) ?_
      simp [pf554,hun,y3]
     ·have e2:(p:Int) < 8 * (b.length:Int):=by omega
      have hw1:=Wi ((p:Int) + 1)
      rw [show 8 * b.length - p = (8 * b.length - (p + 1)) + 1 by omega] at x2
      simp only [zerosB] at x2
      have hpm:p≤4611686018427387904:=by omega
      have hbl:=bitN_le b p
      by_cases e3:bitN b p = 0
      ·rw [if_pos e3] at x2
       unfold pl554_0
       refine Ud (J7 w8 e2 hw1 h hb hpm e3) ?_
       exact ⟨p + 1,by simp,⟨by omega,x2⟩,by show 8 * b.length - (p + 1) < 8 * b.length - p; omega⟩
      ·rw [if_neg e3] at x2
       rw [if_neg (by rw [x2]; simp)] at hun
       unfold pl554_0
       refine Ud (J8 w8 e2 hw1 h hb hpm e3 hun) ?_
       repeat intro hc
       simp [pf554,hun]
    ·have c2:(i:Int) < (kn:Int):=by omega
     have hs:kn - i = (kn - (i + 1)) + 1:=by omega
     rw [hs] at y3
     simp only [unpRows] at y3
     obtain ⟨R,hR⟩:∃ R,R = orRow b wn (i * wn) 0 0:=⟨_,rfl⟩
     obtain ⟨P,hP⟩:∃ P,P = i * wn:=⟨_,rfl⟩
     have hP2:(i:Int) * (wn:Int) = (P:Int):=by rw [hP]; simp
     have hPl:P≤64 * 31:=by rw [hP]; exact Nat.mul_le_mul (by omega) (by omega)
     have hw1:=Wi ((i:Int) + 1)
     have hPw:IntKind.wrap .i64 ((i:Int) * (wn:Int)) = (P:Int):=by rw [hP2]; exact wrap_i64 (by omega) (by omega)
     rw [← hR] at y3
     rw [← hP] at hR
     have hRl:R < 2 ^ 31:=by
      have:=orRow_lt b wn P 0 0 (by simp)
      rw [← hR] at this
      exact Nat.lt_of_lt_of_le this (Nat.pow_le_pow_right (by omega) (by omega))
     unfold pl554_2
     refine Ud c2 ?_
     refine wp_loopI (σ:=Nat × Nat) (fun s => [(0,AV.v k0 (D.sl 1 (b.map eb)),none),(1,AV.v false (di (wn:Nat)),none),(2,AV.v false (di (kn:Nat)),none),(8,AV.pl 8 0 [],some (Rt.vir [C.own (D.sl 1 ((a).map ei))])),(9,AV.v false (di (i:Nat)),none),(10,AV.v false (di (s.2:Nat)),none),(11,AV.v false (di (s.1:Nat)),none)]) (fun s => s.1≤wn∧s.2 < 2 ^ s.1∧R = orRow b (wn - s.1) (P + s.1) s.1 s.2) (fun s => wn - s.1) (0,0) (by simp) ⟨by simp,by simp,by simpa using hR⟩ ?_
     rintro ⟨j,x⟩ ⟨x1,x2,x3⟩
     simp only at x1 x2 x3
     by_cases e1:j = wn
     ·subst e1
      have e2:¬ (j:Int) < (j:Int):=by omega
      simp only [Nat.sub_self,orRow] at x3
      subst x3
      have hq:(a.length + 1) * 8≤70368744177664:=by omega
      unfold pl554_1
      refine Ud (J2 hw1 hq) ?_
      exact ⟨(a ++ [(R:Int)],i + 1),by simp,⟨by omega,by simp [y2],by rw [y3]; simp⟩,by show kn - (i + 1) < kn - i; omega⟩
     ·have e2:(j:Int) < (wn:Int):=by omega
      rw [show wn - j = (wn - (j + 1)) + 1 by omega] at x3
      simp only [orRow] at x3
      have hcl:=t582 k0 b (P + j) h hb (by omega)
      simp only [Int.natCast_add] at hcl
      have hbl:=bitN_le b (P + j)
      generalize bitN b (P + j) = v at *
      obtain ⟨t,ht⟩:∃ t,t = v * 2 ^ j:=⟨_,rfl⟩
      have hj2:(2:Nat) ^ j≤2 ^ 30:=Nat.pow_le_pow_right (by omega) (by omega)
      have htl:t≤2 ^ 30:=by rw [ht]; exact Nat.le_trans (Nat.mul_le_mul hbl hj2) (by simp)
      have z1:=Wi ((P:Int) + (j:Int))
      have z2:min j IntKind.i64.bits = j:=by simp [IntKind.bits]; omega
      have z3:IntKind.wrap .i64 ((v:Int) * 2 ^ j) = (t:Int):=by rw [show (v:Int) * 2 ^ j = (t:Int) by rw [ht]; simp]; exact wrap_i64 (by omega) (by omega)
      rw [← ht] at x3
      have hj3:(2:Nat) ^ (j + 1) = 2 * 2 ^ j:=by rw [Nat.pow_succ]; omega
      have htj:t < 2 ^ (j + 1):=by
       have:t≤1 * 2 ^ j:=by rw [ht]; exact Nat.mul_le_mul hbl (Nat.le_refl _)
       have:=Nat.two_pow_pos j
       omega
      have hol:x ||| t < 2 ^ (j + 1):=Nat.or_lt_two_pow (by omega) htj
      have hol2:x ||| t < 2 ^ 31:=Nat.lt_of_lt_of_le hol (Nat.pow_le_pow_right (by omega) (by omega))
      have z4:x % 2 ^ IntKind.i64.bits = x:=by simp only [IntKind.bits]; omega
      have z5:t % 2 ^ IntKind.i64.bits = t:=by simp only [IntKind.bits]; omega
      have z6:IntKind.wrap .i64 ((x ||| t:Nat):Int) = ((x ||| t:Nat):Int):=wrap_i64 (by omega) (by omega)
      have z7:=Wi ((j:Int) + 1)
      have z0:¬ (j:Int) < 0:=by omega
      unfold pl554_1
      refine Ud (J8 e2 hPw z0 z1 hcl z2 z3 (J4 z4 z5 z6 z7)) ?_
      exact ⟨(j + 1,x ||| t),by simp,⟨by omega,hol,by rw [x3]; rfl⟩,by show wn - (j + 1) < wn - j; omega⟩
   ·have hn:unpF b w k = none:=by unfold unpF; rw [if_neg (fun e => q3 e.2)]
    refine Ud (J6 q1.1 q1.2 q2.1 q2.2 q3 hn) ?_
    repeat intro hc
    simp [pf554,hn]
  ·have hn:unpF b w k = none:=by unfold unpF; rw [if_neg (fun e => q2 e.1.2)]
   refine Ud (J3 q1.1 q1.2 hn) ?_
   repeat intro hc
   simp [pf554,hn]
 ·have hn:unpF b w k = none:=by unfold unpF; rw [if_neg (fun e => q1 e.1.1)]
  refine Ud hn ?_
  repeat intro hc
  simp [pf554,hn]

@[simp] theorem t541 (k0:Bool) (b:List Int) (w k:Int) (h:b.length≤1048576) (hb:bytesOk b):Gw TT 541 [.one (.ro k0 (.sl 1 (b.map eb))),vi w,vi k] = some (olV (unpF b w k),[]):=by
 refine Ga pf541 pb541 ?_
 unfold pb541
 by_cases q1:0≤w∧w≤31
 ·by_cases q2:0≤k∧k≤64
  ·by_cases q3:(b.length:Int) = bfF k w
   ·obtain ⟨wn,rfl⟩:=Int.eq_ofNat_of_zero_le q1.1
    obtain ⟨kn,rfl⟩:=Int.eq_ofNat_of_zero_le q2.1
    have q4:(wn:Int)≤31:=q1.2
    have q5:(kn:Int)≤64:=q2.2
    have hbf:bfF (kn:Int) (wn:Int) = ((kn:Int) * (wn:Int) + 7) / 8:=by simp [bfF,q4,q5]
    obtain ⟨T,hT⟩:∃ T,T = kn * wn:=⟨_,rfl⟩
    have hT2:(kn:Int) * (wn:Int) = (T:Int):=by rw [hT]; simp
    have hTl:T≤64 * 31:=by rw [hT]; exact Nat.mul_le_mul (by omega) (by omega)
    have hlen:b.length = (T + 7) / 8:=by rw [hbf,hT2] at q3; omega
    have hun:unpF b (wn:Int) (kn:Int) = if zerosB b (8 * b.length - T) T = true then some (unpRows b wn kn 0) else none:=by
     unfold unpF; rw [if_pos ⟨⟨q1,q2⟩,q3⟩]; simp [hT]
    refine Ud (J5 q4 q5 q3 h hb) ?_
    refine wp_loopI (σ:=List Int × Nat) (fun s => [(0,AV.v k0 (D.sl 1 (b.map eb)),none),(1,AV.v false (di (wn:Nat)),none),(2,AV.v false (di (kn:Nat)),none),(8,AV.pl 8 0 [],some (Rt.vir [C.own (D.sl 1 ((s.1).map ei))])),(9,AV.v false (di (s.2:Nat)),none)]) (fun s => s.2≤kn∧s.1.length = s.2∧unpRows b wn kn 0 = s.1 ++ unpRows b wn (kn - s.2) s.2) (fun s => kn - s.2) ([],0) (by simp) ⟨by simp,rfl,by simp⟩ ?_
    rintro ⟨a,i⟩ ⟨y1,y2,y3⟩
    simp only at y1 y2 y3
    by_cases c1:i = kn
    ·subst c1
     have c2:¬ (i:Int) < (i:Int):=by omega
     simp only [Nat.sub_self,unpRows,List.append_nil] at y3
     have hTw:IntKind.wrap .i64 ((i:Int) * (wn:Int)) = (T:Int):=by rw [hT2]; exact wrap_i64 (by omega) (by omega)
     unfold pl541_2
     refine Ud hTw ?_
     refine wp_loopI (σ:=Nat) (fun s => [(0,AV.v k0 (D.sl 1 (b.map eb)),none),(8,AV.pl 8 0 [],some (Rt.vir [C.own (D.sl 1 ((a).map ei))])),(12,AV.v false (di (s:Nat)),none)]) (fun s => s≤8 * b.length∧zerosB b (8 * b.length - T) T = zerosB b (8 * b.length - s) s) (fun s => 8 * b.length - s) T (by simp) ⟨by omega,rfl⟩ ?_
     rintro p ⟨x1,x2⟩
     have w8:=Wi (8 * (b.length:Int))
     by_cases e1:p = 8 * b.length
     ·have e2:¬ (p:Int) < 8 * (b.length:Int):=by omega
      rw [e1,Nat.sub_self] at x2
      simp only [zerosB] at x2
      rw [if_pos x2] at hun
      unfold pl541_0
      refine Ud (J3 w8 e2 hun) ?_
      simp [pf541,hun,y3]
     ·have e2:(p:Int) < 8 * (b.length:Int):=by omega
      have hw1:=Wi ((p:Int) + 1)
      rw [show 8 * b.length - p = (8 * b.length - (p + 1)) + 1 by omega] at x2
      simp only [zerosB] at x2
      have hpm:p≤4611686018427387904:=by omega
      have hbl:=bitN_le b p
      by_cases e3:bitN b p = 0
      ·rw [if_pos e3] at x2
       unfold pl541_0
       refine Ud (J7 w8 e2 hw1 h hb hpm e3) ?_
       exact ⟨p + 1,by simp,⟨by omega,x2⟩,by show 8 * b.length - (p + 1) < 8 * b.length - p; omega⟩
      ·rw [if_neg e3] at x2
       rw [if_neg (by rw [x2]; simp)] at hun
       unfold pl541_0
       refine Ud (J8 w8 e2 hw1 h hb hpm e3 hun) ?_
       repeat intro hc
       simp [pf541,hun]
    ·have c2:(i:Int) < (kn:Int):=by omega
     have hs:kn - i = (kn - (i + 1)) + 1:=by omega
     rw [hs] at y3
     simp only [unpRows] at y3
     obtain ⟨R,hR⟩:∃ R,R = orRow b wn (i * wn) 0 0:=⟨_,rfl⟩
     obtain ⟨P,hP⟩:∃ P,P = i * wn:=⟨_,rfl⟩
     have hP2:(i:Int) * (wn:Int) = (P:Int):=by rw [hP]; simp
     have hPl:P≤64 * 31:=by rw [hP]; exact Nat.mul_le_mul (by omega) (by omega)
     have hw1:=Wi ((i:Int) + 1)
     have hPw:IntKind.wrap .i64 ((i:Int) * (wn:Int)) = (P:Int):=by rw [hP2]; exact wrap_i64 (by omega) (by omega)
     rw [← hR] at y3
     rw [← hP] at hR
     have hRl:R < 2 ^ 31:=by
      have:=orRow_lt b wn P 0 0 (by simp)
      rw [← hR] at this
      exact Nat.lt_of_lt_of_le this (Nat.pow_le_pow_right (by omega) (by omega))
     unfold pl541_2
     refine Ud c2 ?_
     refine wp_loopI (σ:=Nat × Nat) (fun s => [(0,AV.v k0 (D.sl 1 (b.map eb)),none),(1,AV.v false (di (wn:Nat)),none),(2,AV.v false (di (kn:Nat)),none),(8,AV.pl 8 0 [],some (Rt.vir [C.own (D.sl 1 ((a).map ei))])),(9,AV.v false (di (i:Nat)),none),(10,AV.v false (di (s.2:Nat)),none),(11,AV.v false (di (s.1:Nat)),none)]) (fun s => s.1≤wn∧s.2 < 2 ^ s.1∧R = orRow b (wn - s.1) (P + s.1) s.1 s.2) (fun s => wn - s.1) (0,0) (by simp) ⟨by simp,by simp,by simpa using hR⟩ ?_
     rintro ⟨j,x⟩ ⟨x1,x2,x3⟩
     simp only at x1 x2 x3
     by_cases e1:j = wn
     ·subst e1
      have e2:¬ (j:Int) < (j:Int):=by omega
      simp only [Nat.sub_self,orRow] at x3
      subst x3
      have hq:(a.length + 1) * 8≤70368744177664:=by omega
      unfold pl541_1
      refine Ud (J2 hw1 hq) ?_
      exact ⟨(a ++ [(R:Int)],i + 1),by simp,⟨by omega,by simp [y2],by rw [y3]; simp⟩,by show kn - (i + 1) < kn - i; omega⟩
     ·have e2:(j:Int) < (wn:Int):=by omega
      rw [show wn - j = (wn - (j + 1)) + 1 by omega] at x3
      simp only [orRow] at x3
      have hcl:=t571 k0 b (P + j) h hb (by omega)
      simp only [Int.natCast_add] at hcl
      have hbl:=bitN_le b (P + j)
      generalize bitN b (P + j) = v at *
      obtain ⟨t,ht⟩:∃ t,t = v * 2 ^ j:=⟨_,rfl⟩
      have hj2:(2:Nat) ^ j≤2 ^ 30:=Nat.pow_le_pow_right (by omega) (by omega)
      have htl:t≤2 ^ 30:=by rw [ht]; exact Nat.le_trans (Nat.mul_le_mul hbl hj2) (by simp)
      have z1:=Wi ((P:Int) + (j:Int))
      have z2:min j IntKind.i64.bits = j:=by simp [IntKind.bits]; omega
      have z3:IntKind.wrap .i64 ((v:Int) * 2 ^ j) = (t:Int):=by rw [show (v:Int) * 2 ^ j = (t:Int) by rw [ht]; simp]; exact wrap_i64 (by omega) (by omega)
      rw [← ht] at x3
      have hj3:(2:Nat) ^ (j + 1) = 2 * 2 ^ j:=by rw [Nat.pow_succ]; omega
      have htj:t < 2 ^ (j + 1):=by
       have:t≤1 * 2 ^ j:=by rw [ht]; exact Nat.mul_le_mul hbl (Nat.le_refl _)
       have:=Nat.two_pow_pos j
       omega
      have hol:x ||| t < 2 ^ (j + 1):=Nat.or_lt_two_pow (by omega) htj
      have hol2:x ||| t < 2 ^ 31:=Nat.lt_of_lt_of_le hol (Nat.pow_le_pow_right (by omega) (by omega))
      have z4:x % 2 ^ IntKind.i64.bits = x:=by simp only [IntKind.bits]; omega
      have z5:t % 2 ^ IntKind.i64.bits = t:=by simp only [IntKind.bits]; omega
      have z6:IntKind.wrap .i64 ((x ||| t:Nat):Int) = ((x ||| t:Nat):Int):=wrap_i64 (by omega) (by omega)
      have z7:=Wi ((j:Int) + 1)
      have z0:¬ (j:Int) < 0:=by omega
      unfold pl541_1
      refine Ud (J8 e2 hPw z0 z1 hcl z2 z3 (J4 z4 z5 z6 z7)) ?_
      exact ⟨(j + 1,x ||| t),by simp,⟨by omega,hol,by rw [x3]; rfl⟩,by show wn - (j + 1) < wn - j; omega⟩
   ·have hn:unpF b w k = none:=by unfold unpF; rw [if_neg (fun e => q3 e.2)]
    refine Ud (J6 q1.1 q1.2 q2.1 q2.2 q3 hn) ?_
    repeat intro hc
    simp [pf541,hn]
  ·have hn:unpF b w k = none:=by unfold unpF; rw [if_neg (fun e => q2 e.1.2)]
   refine Ud (J3 q1.1 q1.2 hn) ?_
   repeat intro hc
   simp [pf541,hn]
 ·have hn:unpF b w k = none:=by unfold unpF; rw [if_neg (fun e => q1 e.1.1)]
  refine Ud hn ?_ ?_
  all_goals repeat intro hc
  all_goals simp [pf541,hn]

def orAt (o:List Int) (q t:Nat):List Int:=match o[q]? with
 | some c => o.set q ((c.toNat ||| t:Nat):Int)
 | none => o
def grow (o:List Int) (n:Nat):List Int:=if n % 8 = 0 then o ++ [0] else o
def stp (o:List Int) (n v:Nat):List Int:=orAt (grow o n) (n / 8) (v * 2 ^ (n % 8))
def pkRow (x:Nat):Nat→Nat→List Int→Nat→List Int
 | 0,_,o,_ => o
 | r + 1,k,o,n => pkRow x r (k + 1) (stp o n (x / 2 ^ k % 2)) (n + 1)
def pkAll (w:Nat):List Int→List Int→Nat→List Int
 | [],o,_ => o
 | n :: l,o,p => pkAll w l (pkRow n.toNat w 0 o p) (p + w)
def packF (l:List Int) (w:Int):List Int:=if fitB w l = true∧(0≤w∧w≤31) then pkAll w.toNat l [] 0 else []

theorem orAt_len (o:List Int) (q t:Nat):(orAt o q t).length = o.length:=by unfold orAt; split <;> simp
theorem grow_len {o:List Int} {n:Nat} (h:o.length = (n + 7) / 8):(grow o n).length = (n + 8) / 8:=by
 unfold grow; split
 ·simp; omega
 ·omega
theorem stp_len {o:List Int} {n v:Nat} (h:o.length = (n + 7) / 8):(stp o n v).length = (n + 1 + 7) / 8:=by
 unfold stp; rw [orAt_len,grow_len h]
theorem pkRow_len (x:Nat):∀ (r k:Nat) (o:List Int) (n:Nat),o.length = (n + 7) / 8→(pkRow x r k o n).length = (n + r + 7) / 8
 | 0,k,o,n,h => h
 | r + 1,k,o,n,h => by
  simp only [pkRow]
  rw [pkRow_len x r (k + 1) _ (n + 1) (stp_len h)]; congr 1; omega
theorem pkAll_len (w:Nat):∀ (l o:List Int) (p:Nat),o.length = (p + 7) / 8→(pkAll w l o p).length = (p + l.length * w + 7) / 8
 | [],o,p,h => by simp [pkAll,h]
 | n :: l,o,p,h => by
  simp only [pkAll]
  rw [pkAll_len w l _ (p + w) (pkRow_len _ w 0 o p h)]; congr 1; simp [Nat.succ_mul]; omega

theorem orAt_ok {o:List Int} {q t:Nat} (h:bytesOk o) (ht:t≤255):bytesOk (orAt o q t):=by
 unfold orAt; split
 ·rename_i c hc
  intro y hy
  rcases List.mem_or_eq_of_mem_set hy with hy | rfl
  ·exact h y hy
  ·have h1:=h c (List.mem_of_getElem? hc)
   have:c.toNat ||| t < 2 ^ 8:=Nat.or_lt_two_pow (by omega) (by omega)
   omega
 ·exact h
theorem bit_le {v m:Nat} (hv:v≤1) (hm:m≤7):v * 2 ^ m≤128:=by
 have h1:(2:Nat) ^ m≤2 ^ 7:=Nat.pow_le_pow_right (by omega) hm
 have h2:v * 2 ^ m≤1 * 2 ^ 7:=Nat.mul_le_mul hv h1
 omega
theorem grow_ok {o:List Int} {n:Nat} (h:bytesOk o):bytesOk (grow o n):=by
 unfold grow; split
 ·intro y hy
  rcases List.mem_append.1 hy with hy | hy
  ·exact h y hy
  ·simp at hy; omega
 ·exact h
theorem stp_ok {o:List Int} {n v:Nat} (h:bytesOk o) (hv:v≤1):bytesOk (stp o n v) :=
 orAt_ok (grow_ok h) (Nat.le_trans (bit_le hv (by omega)) (by omega))
theorem pkRow_ok (x:Nat):∀ (r k:Nat) (o:List Int) (n:Nat),bytesOk o→bytesOk (pkRow x r k o n)
 | 0,k,o,n,h => h
 | r + 1,k,o,n,h => by
  simp only [pkRow]
  exact pkRow_ok x r (k + 1) _ (n + 1) (stp_ok h (by omega))
theorem pkAll_ok (w:Nat):∀ (l o:List Int) (p:Nat),bytesOk o→bytesOk (pkAll w l o p)
 | [],o,p,h => h
 | n :: l,o,p,h => by
  simp only [pkAll]
  exact pkAll_ok w l _ (p + w) (pkRow_ok _ w 0 o p h)
theorem bytesOk_nil:bytesOk []:=fun c hc => by simp at hc
theorem packF_ok (l:List Int) (w:Int):bytesOk (packF l w):=by
 unfold packF; split
 ·exact pkAll_ok _ _ _ _ bytesOk_nil
 ·exact bytesOk_nil
theorem packF_len (l:List Int) (w:Int):(packF l w).length≤(l.length * 31 + 7) / 8:=by
 unfold packF; split
 ·rename_i h
  rw [pkAll_len _ l [] 0 (by simp)]
  have:l.length * w.toNat≤l.length * 31:=Nat.mul_le_mul (Nat.le_refl _) (by omega)
  omega
 ·simp

def padL (L:Nat) (o:List Int):List Int:=o ++ List.replicate (L - o.length) 0
theorem padL_len {L:Nat} {o:List Int} (h:o.length≤L):(padL L o).length = L:=by simp [padL]; omega
theorem orAt_app {a b:List Int} {q t:Nat} (h:q < a.length):orAt (a ++ b) q t = orAt a q t ++ b:=by
 unfold orAt
 rw [List.getElem?_append_left h,List.getElem?_eq_getElem h]
 simp only
 rw [List.set_append_left _ _ h]
theorem padL_stp {L:Nat} {o:List Int} {n v:Nat} (h:o.length = (n + 7) / 8) (hL:(n + 8) / 8≤L):padL L (stp o n v) = orAt (padL L o) (n / 8) (v * 2 ^ (n % 8)):=by
 have hg:=grow_len h
 have h1:padL L o = padL L (grow o n):=by
  unfold grow; split
  ·simp only [padL,List.length_append,List.length_cons,List.length_nil,List.append_assoc]
   congr 1
   rw [show L - o.length = (L - (o.length + (0 + 1))) + 1 by omega,List.replicate_succ]
   rfl
  ·rfl
 rw [h1]
 unfold stp
 rw [padL,orAt_len]
 conv => rhs; rw [padL]
 rw [orAt_app (by omega)]

theorem fitB_mem {w:Int}:∀ {l:List Int},fitB w l = true→∀ n ∈ l,0≤n∧n≤2147483647
 | [],_,n,hn => by simp at hn
 | x :: l,h,n,hn => by
  simp only [fitB] at h
  split at h
  ·rename_i hx
   rcases List.mem_cons.1 hn with rfl | hn
   ·exact hx.1
   ·exact fitB_mem h n hn
  ·cases h

@[simp] theorem t574 (k0:Bool) (l:List Int) (w:Int) (h:l.length≤1048576):Gw TT 574 [.one (.ro k0 (.sl 1 (l.map ei))),vi w] = some (.one (.own (.sl 1 ((packF l w).map eb))),[]):=by
 refine Ga pf574 pb574 ?_
 unfold pb574
 by_cases q1:fitB w l = true∧(0≤w∧w≤31)
 ·obtain ⟨q2,q3⟩:=q1
  obtain ⟨wn,rfl⟩:=Int.eq_ofNat_of_zero_le q3.1
  have q4:(wn:Int)≤31:=q3.2
  have hpf:packF l (wn:Int) = pkAll wn l [] 0:=by simp [packF,q2,q4]
  refine Uw (J3 q2 q4 h) ?_
  refine wp_loopI (σ:=(List Int × List Int) × (List Int × Nat)) (fun s => [(0,AV.v k0 (D.sl 1 (l.map ei)),none),(1,AV.v false (di (wn:Nat)),none),(5,AV.pl 5 0 [],some (Rt.vir [C.own (D.sl 1 ((s.2.1).map eb))])),(6,AV.v false (di (s.2.2:Nat)),none),(7,AV.v false (di (s.1.1.length:Nat)),none)]) (fun s => l = s.1.1 ++ s.1.2∧s.2.2 = s.1.1.length * wn∧s.2.1.length = (s.2.2 + 7) / 8∧bytesOk s.2.1∧pkAll wn l [] 0 = pkAll wn s.1.2 s.2.1 s.2.2) (fun s => s.1.2.length) (([],l),([],0)) (by simp) ⟨rfl,by simp,by simp,bytesOk_nil,rfl⟩ ?_
  rintro ⟨⟨pre,rest⟩,⟨o,p⟩⟩ ⟨y1,y2,y3,y4,y5⟩
  simp only at y1 y2 y3 y4 y5
  have hll:l.length = pre.length + rest.length:=by rw [y1,List.length_append]
  cases rest with
  | nil =>
   have c1:¬ (pre.length:Int) < (l.length:Int):=by simp at hll; omega
   simp only [pkAll] at y5
   unfold pl574_1
   refine Uw c1 ?_
   simp [pf574,hpf,y5]
  | cons x rest =>
   have c1:(pre.length:Int) < (l.length:Int):=by simp at hll; omega
   have hx:=fitB_mem q2 x (by rw [y1]; simp)
   obtain ⟨xn,rfl⟩:=Int.eq_ofNat_of_zero_le hx.1
   simp only [pkAll,Int.toNat_natCast] at y5
   have hgx:l[pre.length]? = some (xn:Int):=by rw [y1]; simp
   obtain ⟨hxl,hxe⟩:=List.getElem?_eq_some_iff.1 hgx
   have hpl:p≤1048576 * 31:=by rw [y2]; exact Nat.mul_le_mul (by simp at hll; omega) (by omega)
   have hw1:=Wi ((pre.length:Int) + 1)
   obtain ⟨O,hO⟩:∃ O,O = pkRow xn wn 0 o p:=⟨_,rfl⟩
   have hOl:O.length = (p + wn + 7) / 8:=by rw [hO]; exact pkRow_len xn wn 0 o p y3
   have hOk:bytesOk O:=by rw [hO]; exact pkRow_ok xn wn 0 o p y4
   rw [← hO] at y5
   unfold pl574_1
   refine Uw c1 ?_
   refine wp_loopI (σ:=Nat × List Int) (fun s => [(0,AV.v k0 (D.sl 1 (l.map ei)),none),(1,AV.v false (di (wn:Nat)),none),(5,AV.pl 5 0 [],some (Rt.vir [C.own (D.sl 1 ((s.2).map eb))])),(6,AV.v false (di (p + s.1:Nat)),none),(7,AV.v false (di (pre.length:Nat)),none),(8,AV.v false (di (s.1:Nat)),none)]) (fun s => s.1≤wn∧s.2.length = (p + s.1 + 7) / 8∧bytesOk s.2∧O = pkRow xn (wn - s.1) s.1 s.2 (p + s.1)) (fun s => wn - s.1) (0,o) (by simp) ⟨by simp,y3,y4,by simpa using hO⟩ ?_
   rintro ⟨k,s⟩ ⟨x1,x2,x3,x4⟩
   simp only at x1 x2 x3 x4
   by_cases e1:k = wn
   ·subst e1
    simp only [Nat.sub_self,pkRow] at x4
    subst x4
    unfold pl574_0
    refine Uw hw1 ?_
    exact ⟨((pre ++ [(xn:Int)],rest),(O,p + k)),by simp,⟨by rw [y1]; simp,by simp [y2,Nat.succ_mul],hOl,hOk,y5⟩,by simp⟩
   ·have e2:(k:Int) < (wn:Int):=by omega
    rw [show wn - k = (wn - (k + 1)) + 1 by omega] at x4
    simp only [pkRow] at x4
    have z1:=Wi ((p:Int) + (k:Int) + 1)
    have z2:=Wi ((k:Int) + 1)
    obtain ⟨n,hn⟩:∃ n,n = p + k:=⟨_,rfl⟩
    have hnc:(p:Int) + (k:Int) = (n:Int):=by omega
    rw [← hn] at x2 x4
    rw [hnc] at z1
    have k0':¬ (k:Int) < 0:=by omega
    have b1:min k IntKind.i64.bits = k:=by simp [IntKind.bits]; omega
    obtain ⟨q,hq⟩:∃ q,q = xn / 2 ^ k:=⟨_,rfl⟩
    have hql:q≤xn:=by rw [hq]; exact Nat.div_le_self _ _
    have b2:(xn:Int).fdiv (2 ^ k) = (q:Int):=by rw [Int.fdiv_eq_ediv_of_nonneg _ (Int.le_of_lt (Int.pow_pos (by omega))),hq]; simp
    have b3:q % 2 ^ IntKind.i64.bits = q:=by simp only [IntKind.bits]; omega
    have b4:1 % 2 ^ IntKind.i64.bits = 1:=by simp [IntKind.bits]
    have b5:=Wi ((q:Int) % 2)
    obtain ⟨v,hv⟩:∃ v,v = q % 2:=⟨_,rfl⟩
    have b6:(q:Int) % 2 = (v:Int):=by rw [hv]; simp
    have hvl:v≤1:=by omega
    obtain ⟨m,hm⟩:∃ m,m = n % 8:=⟨_,rfl⟩
    have hml:m≤7:=by omega
    have d1:=Wi ((n:Int) / 8)
    have d2:(n:Int).tdiv 8 = (n:Int) / 8:=Int.tdiv_eq_ediv_of_nonneg (by omega)
    have d3:(n:Int).tmod 8 = (m:Int):=by rw [Int.tmod_eq_emod_of_nonneg (by omega),hm]; simp
    have d5:(n:Int) % 8 = (m:Int):=by rw [hm]; simp
    have d4:((n:Int) / 8).toNat = n / 8:=by omega
    have m0:¬ (m:Int) < 0:=by omega
    have m1:min m IntKind.i64.bits = m:=by simp [IntKind.bits]; omega
    have m2:min m IntKind.u8.bits = m:=by simp [IntKind.bits]; omega
    have m3:IntKind.wrap .i64 (m:Int) = (m:Int):=wrap_i64 (by omega) (by omega)
    rw [← hq,← hv] at x4
    have hgl:=grow_len x2
    have hgo:=grow_ok (n:=n) x3
    obtain ⟨G,hG⟩:∃ G,G = grow s n:=⟨_,rfl⟩
    rw [← hG] at hgl hgo
    have hGn:n / 8 < G.length:=by omega
    obtain ⟨c,hgc⟩:∃ c,G[n / 8]? = some c:=⟨_,List.getElem?_eq_getElem hGn⟩
    have hge:G[n / 8] = c:=(List.getElem?_eq_some_iff.1 hgc).2
    have hc0:=hgo c (List.mem_of_getElem? hgc)
    obtain ⟨cn,rfl⟩:=Int.eq_ofNat_of_zero_le hc0.1
    have hst:stp s n v = G.set (n / 8) ((cn ||| v * 2 ^ m:Nat):Int):=by
     unfold stp orAt; rw [← hG,hgc,hm]; simp
    have g1:(0:Int)≤(n:Int) / 8:=by omega
    have g2:(n:Int) / 8 < (G.length:Int):=by omega
    have hsl:(s.length + 1) * 1≤70368744177664:=by omega
    have hsl2:s.length + 1≤70368744177664:=by omega
    obtain ⟨t,ht⟩:∃ t,t = 2 ^ m:=⟨_,rfl⟩
    have htl:t≤128:=by rw [ht]; exact Nat.pow_le_pow_right (by omega) hml
    have t1:IntKind.wrap .u8 (2 ^ m) = (t:Int):=by rw [show (2:Int) ^ m = (t:Int) by rw [ht]; simp]; exact wrap_u8 (by omega) (by omega)
    have t2:cn % 2 ^ IntKind.u8.bits = cn:=by simp only [IntKind.bits]; omega
    have t3:t % 2 ^ IntKind.u8.bits = t:=by simp only [IntKind.bits]; omega
    have hor:cn ||| t < 2 ^ 8:=Nat.or_lt_two_pow (by omega) (by omega)
    have t4:IntKind.wrap .u8 ((cn ||| t:Nat):Int) = ((cn ||| t:Nat):Int):=wrap_u8 (by omega) (by omega)
    have hsp:=stp_len (v:=v) x2
    have hso:=stp_ok (n:=n) x3 hvl
    unfold pl574_0
    by_cases u3:v = 1
    ·by_cases u1:m = 0
     ·skip
      have u2:G = s ++ [0]:=by rw [hG]; unfold grow; rw [if_pos (by omega)]
      have u4:List.map eb s ++ [[D.int IntKind.u8 0]] = List.map eb G:=by rw [u2]; simp
      subst u3
      rw [Nat.one_mul,← ht] at hst
      have t5:t = 1:=by simp [ht,u1]
      subst t5
      have r7:1 % 2 ^ IntKind.u8.bits = 1:=by simp [IntKind.bits]
      refine Uw (J8 e2 hnc z1 z2 k0' b1 b2 (J8 b3 b4 b5 b6 d1 d2 d3 (J8 d5 d4 m0 m1 m2 m3 hgx (J8 hxl hxe hGn hgc hge g1 g2 (J8 hsl hsl2 u1 u4 @t1 @t2 @t3 (J2 @t4 r7)))))) ?_
      exact ⟨(k + 1,G.set (n / 8) ((cn ||| 1:Nat):Int)),(by simp; try omega),⟨by omega,by rw [← hst,hsp]; first | (congr 1; omega) | rfl,by rw [← hst]; exact hso,by rw [← hst]; rw [show p + (k + 1) = n + 1 by omega]; exact x4⟩,by show wn - (k + 1) < wn - k; omega⟩
     ·skip
      have u2:G = s:=by rw [hG]; unfold grow; rw [if_neg (by omega)]
      subst u2
      have u5:¬ (m:Int) = 0:=by omega
      have u4:True:=trivial
      subst u3
      rw [Nat.one_mul,← ht] at hst
      have r7:True:=trivial
      refine Uw (J8 e2 hnc z1 z2 k0' b1 b2 (J8 b3 b4 b5 b6 d1 d2 d3 (J8 d5 d4 m0 m1 m2 m3 hgx (J8 hxl hxe hGn hgc hge g1 g2 (J8 hsl hsl2 u1 u5 u4 @t1 @t2 (J3 @t3 @t4 r7)))))) ?_
      repeat intro hc
      exact ⟨(k + 1,G.set (n / 8) ((cn ||| t:Nat):Int)),(by simp; try omega),⟨by omega,by rw [← hst,hsp]; first | (congr 1; omega) | rfl,by rw [← hst]; exact hso,by rw [← hst]; rw [show p + (k + 1) = n + 1 by omega]; exact x4⟩,by show wn - (k + 1) < wn - k; omega⟩
    ·by_cases u1:m = 0
     ·skip
      have u2:G = s ++ [0]:=by rw [hG]; unfold grow; rw [if_pos (by omega)]
      have u4:List.map eb s ++ [[D.int IntKind.u8 0]] = List.map eb G:=by rw [u2]; simp
      have u6:v = 0:=by omega
      subst u6
      have hst0:stp s n 0 = G:=by rw [hst]; simp only [Nat.zero_mul,Nat.or_zero]; rw [← hge]; first | done | simp
      refine Uw (J8 e2 hnc z1 z2 k0' b1 b2 (J8 b3 b4 b5 b6 d1 d2 d3 (J8 d5 d4 m0 m1 m2 m3 hgx (J8 hxl hxe hGn hgc hge g1 g2 (J4 hsl hsl2 u1 u4))))) ?_
      exact ⟨(k + 1,G),(by simp; try omega),⟨by omega,by rw [← hst0,hsp]; first | (congr 1; omega) | rfl,by rw [← hst0]; exact hso,by rw [← hst0]; rw [show p + (k + 1) = n + 1 by omega]; exact x4⟩,by show wn - (k + 1) < wn - k; omega⟩
     ·skip
      have u2:G = s:=by rw [hG]; unfold grow; rw [if_neg (by omega)]
      subst u2
      have u5:¬ (m:Int) = 0:=by omega
      have u4:True:=trivial
      have u6:v = 0:=by omega
      subst u6
      have hst0:stp G n 0 = G:=by rw [hst]; simp only [Nat.zero_mul,Nat.or_zero]; rw [← hge]; first | done | simp
      refine Uw (J8 e2 hnc z1 z2 k0' b1 b2 (J8 b3 b4 b5 b6 d1 d2 d3 (J8 d5 d4 m0 m1 m2 m3 hgx (J8 hxl hxe hGn hgc hge g1 g2 (J5 hsl hsl2 u1 u5 u4))))) ?_
      repeat intro hc
      exact ⟨(k + 1,G),(by simp; try omega),⟨by omega,by rw [← hst0,hsp]; first | (congr 1; omega) | rfl,by rw [← hst0]; exact hso,by rw [← hst0]; rw [show p + (k + 1) = n + 1 by omega]; exact x4⟩,by show wn - (k + 1) < wn - k; omega⟩
 ·have hpf:packF l w = []:=by unfold packF; rw [if_neg q1]
  have q5:(fitB w l && (decide (0≤w) && decide (w≤31))) = false:=by
   cases hf:fitB w l with
   | false => rfl
   | true => simp; intro h0; have:¬ (0≤w∧w≤31):=fun e => q1 ⟨hf,e⟩; omega
  refine Uw (J2 q5 h) ?_
  simp [pf574,hpf]

@[simp] theorem t586 (k0:Bool) (l:List Int) (w:Int) (h:l.length≤1048576):Gw TT 586 [.one (.ro k0 (.sl 1 (l.map ei))),vi w] = some (.one (.own (.sl 1 ((packF l w).map eb))),[]):=by
 refine Ga pf586 pb586 ?_
 unfold pb586
 by_cases q3:0≤w∧w≤31
 ·obtain ⟨wn,rfl⟩:=Int.eq_ofNat_of_zero_le q3.1
  have q4:(wn:Int)≤31:=q3.2
  refine Ud (J2 q4 h) ?_
  refine wp_loopI (σ:=List Int × List Int) (fun s => [(0,AV.v k0 (D.sl 1 (l.map ei)),none),(1,AV.v false (di (wn:Nat)),none),(15,AV.v k0 (D.sl 1 (l.map ei)),none),(16,AV.v false (di (l.length:Nat)),none),(17,AV.v false (di (s.1.length:Nat)),none)]) (fun s => l = s.1 ++ s.2∧fitB wn l = fitB wn s.2) (fun s => s.2.length) ([],l) (by simp) ⟨rfl,rfl⟩ ?_
  rintro ⟨pre,rest⟩ ⟨y1,y2⟩
  simp only at y1 y2
  have hll:l.length = pre.length + rest.length:=by rw [y1,List.length_append]
  cases rest with
  | cons x rest =>
   have c1:(pre.length:Int) < (l.length:Int):=by simp at hll; omega
   have hgx:l[pre.length]? = some x:=by rw [y1]; simp
   obtain ⟨hxl,hxe⟩:=List.getElem?_eq_some_iff.1 hgx
   have hw1:=Wi ((pre.length:Int) + 1)
   by_cases g1:0≤x∧x≤2147483647
   ·by_cases g2:widI x≤(wn:Int)
    ·have g3:¬ (wn:Int) < widI x:=by omega
     simp only [fitB] at y2
     rw [if_pos ⟨g1,g2⟩] at y2
     unfold pl586_2
     refine Ud (J8 c1 hgx hxl hxe hw1 g1.1 g1.2 (J2 g2 g3)) ?_
     exact ⟨(pre ++ [x],rest),by simp,⟨by rw [y1]; simp,by simp only [fitB]; exact y2⟩,by simp⟩
    ·have g3:(wn:Int) < widI x:=by omega
     simp only [fitB] at y2
     rw [if_neg (fun e => g2 e.2)] at y2
     have hpf:packF l (wn:Int) = []:=by unfold packF; rw [if_neg (fun e => by have:=e.1; rw [show fitB (wn:Int) l = false from y2] at this; cases this)]
     unfold pl586_2
     refine Ud (J8 c1 hgx hxl hxe hw1 g1.1 g1.2 (J2 g3 hpf)) ?_
     simp [pf586,hpf]
   ·simp only [fitB] at y2
    rw [if_neg (fun e => g1 e.1)] at y2
    have hpf:packF l (wn:Int) = []:=by unfold packF; rw [if_neg (fun e => by have:=e.1; rw [show fitB (wn:Int) l = false from y2] at this; cases this)]
    unfold pl586_2
    refine Ud (J6 c1 hgx hxl hxe hw1 hpf) ?_
    repeat intro hc
    simp [pf586,hpf]
  | nil =>
   have q2:fitB (wn:Int) l = true:=y2
   have c1:¬ (pre.length:Int) < (l.length:Int):=by simp at hll; omega
   have hpf:packF l (wn:Int) = pkAll wn l [] 0:=by simp [packF,q2,q4]
   obtain ⟨T,hT⟩:∃ T,T = l.length * wn:=⟨_,rfl⟩
   have hT2:(l.length:Int) * (wn:Int) = (T:Int):=by rw [hT]; simp
   have hTl:T≤1048576 * 31:=by rw [hT]; exact Nat.mul_le_mul (by omega) (by omega)
   obtain ⟨L,hL⟩:∃ L,L = (T + 7) / 8:=⟨_,rfl⟩
   have v1:IntKind.wrap .i64 ((l.length:Int) * (wn:Int)) = (T:Int):=by rw [hT2]; exact wrap_i64 (by omega) (by omega)
   have v2:=Wi ((T:Int) + 7)
   have v3:((T:Int) + 7).tdiv 8 = (L:Int):=by rw [Int.tdiv_eq_ediv_of_nonneg (by omega)]; omega
   have v4:IntKind.wrap .i64 (L:Int) = (L:Int):=wrap_i64 (by omega) (by omega)
   have v5:L * 1≤140737488355328:=by omega
   have v6:L≤140737488355328:=by omega
   have hp0:padL L [] = List.replicate L 0:=by simp [padL]
   clear y1 hll y2
   unfold pl586_2
   refine Ud (J7 c1 v1 v2 v3 v4 v5 v6) ?_
   refine wp_loopI (σ:=(List Int × List Int) × (List Int × Nat)) (fun s => [(1,AV.v false (di (wn:Nat)),none),(7,AV.pl 7 0 [],some (Rt.vir [C.own (D.sl 1 ((padL L s.2.1).map eb))])),(38,AV.v k0 (D.sl 1 (l.map ei)),none),(39,AV.v false (di (l.length:Nat)),none),(40,AV.v false (di (s.1.1.length:Nat)),none)]) (fun s => l = s.1.1 ++ s.1.2∧s.2.2 = s.1.1.length * wn∧s.2.1.length = (s.2.2 + 7) / 8∧bytesOk s.2.1∧pkAll wn l [] 0 = pkAll wn s.1.2 s.2.1 s.2.2) (fun s => s.1.2.length) (([],l),([],0)) (by simp [hp0]) ⟨rfl,by simp,by simp,bytesOk_nil,rfl⟩ ?_
   clear c1
   rintro ⟨⟨pre,rest⟩,⟨o,p⟩⟩ ⟨y1,y2,y3,y4,y5⟩
   simp only at y1 y2 y3 y4 y5
   have hll:l.length = pre.length + rest.length:=by rw [y1,List.length_append]
   cases rest with
   | nil =>
    have c1:¬ (pre.length:Int) < (l.length:Int):=by simp at hll; omega
    simp only [pkAll] at y5
    have hpo:padL L o = o:=by
     have:o.length = L:=by rw [y3,y2,hL,hT]; simp at hll; rw [hll]
     simp [padL,this]
    unfold pl586_1
    refine Ud (J2 c1 hpo) ?_
    simp [pf586,hpf,y5,hpo]
   | cons x rest =>
    have c1:(pre.length:Int) < (l.length:Int):=by simp at hll; omega
    have hx:=fitB_mem q2 x (by rw [y1]; simp)
    obtain ⟨xn,rfl⟩:=Int.eq_ofNat_of_zero_le hx.1
    simp only [pkAll,Int.toNat_natCast] at y5
    have hgx:l[pre.length]? = some (xn:Int):=by rw [y1]; simp
    obtain ⟨hxl,hxe⟩:=List.getElem?_eq_some_iff.1 hgx
    have hpl:p≤1048576 * 31:=by rw [y2]; exact Nat.mul_le_mul (by simp at hll; omega) (by omega)
    have hpw:p + wn≤T:=by
     have:(pre.length + 1) * wn≤l.length * wn:=Nat.mul_le_mul (by simp at hll; omega) (Nat.le_refl _)
     rw [Nat.succ_mul] at this; omega
    have hpm:(pre.length:Int) * (wn:Int) = (p:Int):=by rw [y2]; simp
    have v7:IntKind.wrap .i64 ((pre.length:Int) * (wn:Int)) = (p:Int):=by rw [hpm]; exact wrap_i64 (by omega) (by omega)
    have hw1:=Wi ((pre.length:Int) + 1)
    obtain ⟨O,hO⟩:∃ O,O = pkRow xn wn 0 o p:=⟨_,rfl⟩
    have hOl:O.length = (p + wn + 7) / 8:=by rw [hO]; exact pkRow_len xn wn 0 o p y3
    have hOk:bytesOk O:=by rw [hO]; exact pkRow_ok xn wn 0 o p y4
    rw [← hO] at y5
    unfold pl586_1
    refine Ud (J4 c1 hgx hxl hxe) ?_
    refine wp_loopI (σ:=Nat × List Int) (fun s => [(1,AV.v false (di (wn:Nat)),none),(7,AV.pl 7 0 [],some (Rt.vir [C.own (D.sl 1 ((padL L s.2).map eb))])),(8,AV.v false (di (pre.length:Nat)),none),(9,AV.v false (di (xn:Nat)),none),(10,AV.v false (di (s.1:Nat)),none),(38,AV.v k0 (D.sl 1 (l.map ei)),none),(39,AV.v false (di (l.length:Nat)),none),(40,AV.v false (di (pre.length:Nat)),none)]) (fun s => s.1≤wn∧s.2.length = (p + s.1 + 7) / 8∧bytesOk s.2∧O = pkRow xn (wn - s.1) s.1 s.2 (p + s.1)) (fun s => wn - s.1) (0,o) (by simp) ⟨by simp,y3,y4,by simpa using hO⟩ ?_
    rintro ⟨k,s⟩ ⟨x1,x2,x3,x4⟩
    simp only at x1 x2 x3 x4
    by_cases e1:k = wn
    ·subst e1
     simp only [Nat.sub_self,pkRow] at x4
     subst x4
     unfold pl586_0
     refine Ud hw1 ?_
     exact ⟨((pre ++ [(xn:Int)],rest),(O,p + k)),by simp,⟨by rw [y1]; simp,by simp [y2,Nat.succ_mul],hOl,hOk,y5⟩,by simp⟩
    ·have e2:(k:Int) < (wn:Int):=by omega
     rw [show wn - k = (wn - (k + 1)) + 1 by omega] at x4
     simp only [pkRow] at x4
     have z2:=Wi ((k:Int) + 1)
     obtain ⟨n,hn⟩:∃ n,n = p + k:=⟨_,rfl⟩
     have hnc:(p:Int) + (k:Int) = (n:Int):=by omega
     have z1:IntKind.wrap .i64 ((p:Int) + (k:Int)) = (n:Int):=by rw [hnc]; exact wrap_i64 (by omega) (by omega)
     rw [← hn] at x2 x4
     have k0':¬ (k:Int) < 0:=by omega
     have b1:min k IntKind.i64.bits = k:=by simp [IntKind.bits]; omega
     obtain ⟨q,hq⟩:∃ q,q = xn / 2 ^ k:=⟨_,rfl⟩
     have hql:q≤xn:=by rw [hq]; exact Nat.div_le_self _ _
     have b2:(xn:Int).fdiv (2 ^ k) = (q:Int):=by rw [Int.fdiv_eq_ediv_of_nonneg _ (Int.le_of_lt (Int.pow_pos (by omega))),hq]; simp
     have b3:q % 2 ^ IntKind.i64.bits = q:=by simp only [IntKind.bits]; omega
     have b4:1 % 2 ^ IntKind.i64.bits = 1:=by simp [IntKind.bits]
     have b5:=Wi ((q:Int) % 2)
     obtain ⟨v,hv⟩:∃ v,v = q % 2:=⟨_,rfl⟩
     have b6:(q:Int) % 2 = (v:Int):=by rw [hv]; simp
     have hvl:v≤1:=by omega
     obtain ⟨m,hm⟩:∃ m,m = n % 8:=⟨_,rfl⟩
     have hml:m≤7:=by omega
     have d1:=Wi ((n:Int) / 8)
     have d2:(n:Int).tdiv 8 = (n:Int) / 8:=Int.tdiv_eq_ediv_of_nonneg (by omega)
     have d3:(n:Int).tmod 8 = (m:Int):=by rw [Int.tmod_eq_emod_of_nonneg (by omega),hm]; simp
     have d5:(n:Int) % 8 = (m:Int):=by rw [hm]; simp
     have d4:((n:Int) / 8).toNat = n / 8:=by omega
     have m0:¬ (m:Int) < 0:=by omega
     have m1:min m IntKind.i64.bits = m:=by simp [IntKind.bits]; omega
     have m2:min m IntKind.u8.bits = m:=by simp [IntKind.bits]; omega
     have m3:IntKind.wrap .i64 (m:Int) = (m:Int):=wrap_i64 (by omega) (by omega)
     rw [← hq,← hv] at x4
     have hsp:=stp_len (v:=v) x2
     have hso:=stp_ok (n:=n) x3 hvl
     have hps:=padL_stp (L:=L) (v:=v) x2 (by omega)
     have hGl:=padL_len (L:=L) (o:=s) (by omega)
     have hGk:bytesOk (padL L s):=by
      intro y hy
      simp only [padL,List.mem_append,List.mem_replicate] at hy
      rcases hy with hy | hy
      ·exact x3 y hy
      ·omega
     obtain ⟨G,hG⟩:∃ G,G = padL L s:=⟨_,rfl⟩
     rw [← hG] at hGl hGk hps
     have hGn:n / 8 < G.length:=by omega
     obtain ⟨c,hgc⟩:∃ c,G[n / 8]? = some c:=⟨_,List.getElem?_eq_getElem hGn⟩
     have hge:G[n / 8] = c:=(List.getElem?_eq_some_iff.1 hgc).2
     have hc0:=hGk c (List.mem_of_getElem? hgc)
     obtain ⟨cn,rfl⟩:=Int.eq_ofNat_of_zero_le hc0.1
     obtain ⟨t,ht⟩:∃ t,t = v * 2 ^ m:=⟨_,rfl⟩
     have htl:t≤128:=by rw [ht]; exact bit_le hvl hml
     have hst:padL L (stp s n v) = G.set (n / 8) ((cn ||| t:Nat):Int):=by
      rw [hps]; unfold orAt; rw [hgc,← hm,ht]; simp
     have g1:(0:Int)≤(n:Int) / 8:=by omega
     have g2:(n:Int) / 8 < (G.length:Int):=by omega
     have t0:(v:Int) * 2 ^ m = (t:Int):=by rw [ht]; simp
     have t1:IntKind.wrap .i64 ((v:Int) * 2 ^ m) = (t:Int):=by rw [t0]; exact wrap_i64 (by omega) (by omega)
     have t5:IntKind.wrap .u8 (t:Int) = (t:Int):=wrap_u8 (by omega) (by omega)
     have t6:IntKind.wrap .i64 (v:Int) = (v:Int):=wrap_i64 (by omega) (by omega)
     have t7:(t:Int) % 2 ^ IntKind.u8.bits = (t:Int):=by simp only [IntKind.bits]; omega
     have t2:cn % 2 ^ IntKind.u8.bits = cn:=by simp only [IntKind.bits]; omega
     have t3:t % 2 ^ IntKind.u8.bits = t:=by simp only [IntKind.bits]; omega
     have hor:cn ||| t < 2 ^ 8:=Nat.or_lt_two_pow (by omega) (by omega)
     have t4:IntKind.wrap .u8 ((cn ||| t:Nat):Int) = ((cn ||| t:Nat):Int):=wrap_u8 (by omega) (by omega)
     have hst2:List.map eb (padL L (stp s n v)) = (List.map eb G).set (n / 8) [D.int IntKind.u8 ((cn ||| t:Nat):Int)]:=by rw [hst]; simp
     clear hst hps
     rw [← hG]
     unfold pl586_0
     refine Ud (J8 e2 v7 z1 z2 k0' b1 b2 (J8 b3 b4 b5 b6 d1 d2 d3 (J8 d5 d4 m0 m1 m2 m3 hGn (J8 hgc hge g1 g2 @t1 @t5 @t6 (J4 @t7 @t2 @t3 @t4))))) ?_
     exact ⟨(k + 1,stp s n v),by simp [hst2],⟨by omega,by rw [hsp]; first | (congr 1; omega) | rfl,hso,by rw [show p + (k + 1) = n + 1 by omega]; exact x4⟩,by show wn - (k + 1) < wn - k; omega⟩
 ·have hpf:packF l w = []:=by unfold packF; rw [if_neg (fun e => q3 e.2)]
  refine Ud hpf ?_
  repeat intro hc
  simp [pf586,hpf]

def bsI (s:ByteArray):List Int:=s.toList.map fun b => (b.toNat:Int)

theorem ba_data (s:ByteArray):s.toList = s.data.toList:=ByteArray.toList_eq s

theorem bsI_ok (s:ByteArray):bytesOk (bsI s):=by
 intro c hc
 simp only [bsI,List.mem_map] at hc
 obtain ⟨b,_,rfl⟩:=hc
 have:=b.toNat_lt
 omega

theorem bsI_len (s:ByteArray):(bsI s).length = s.size:=by simp [bsI,bl_len]

theorem bsI_strOf {l:List Int} (h:bytesOk l):bsI (strOf l) = l:=by
 simp only [bsI,strOf,ba_data,List.map_map]
 conv => rhs; rw [← List.map_id l]
 apply List.map_congr_left
 intro c hc
 have:=h c hc
 simp
 omega

theorem ba_inj {s t:ByteArray} (h:s.toList = t.toList):s = t:=by
 apply ByteArray.ext
 apply Array.toList_inj.1
 rw [← ba_data,← ba_data]; exact h

theorem strOf_inj {l m:List Int} (hl:bytesOk l) (hm:bytesOk m) (h:strOf l = strOf m):l = m:=by
 rw [← bsI_strOf hl,← bsI_strOf hm,h]

theorem strEq {l m:List Int} (hl:bytesOk l) (hm:bytesOk m):((strOf l).toList == (strOf m).toList) = decide (l = m):=by
 by_cases h:l = m
 ·subst h; simp
 ·rw [decide_eq_false h]
  apply Bool.eq_false_iff.2
  intro e
  have:=ba_inj (eq_of_beq e)
  exact h (strOf_inj hl hm this)

theorem valEq_iff {a b:XVal}:valEq a b = true ↔ a = b:=by
 obtain ⟨t,n,s⟩:=a
 obtain ⟨t',n',s'⟩:=b
 simp only [valEq,Bool.and_eq_true,beq_iff_eq,XVal.mk.injEq]
 constructor
 ·rintro ⟨h1,h2,h3⟩; exact ⟨h1,h2,ba_inj h3⟩
 ·rintro ⟨h1,h2,h3⟩; exact ⟨h1,h2,by rw [h3]⟩

theorem bytesOk_append {a b:List Int} (ha:bytesOk a) (hb:bytesOk b):bytesOk (a ++ b):=by
 intro c hc
 rcases List.mem_append.1 hc with h | h
 ·exact ha c h
 ·exact hb c h
theorem bytesOk_drop {b:List Int} (n:Nat) (h:bytesOk b):bytesOk (b.drop n):=fun c hc => h c (List.mem_of_mem_drop hc)
theorem bytesOk_take {b:List Int} (n:Nat) (h:bytesOk b):bytesOk (b.take n):=fun c hc => h c (List.mem_of_mem_take hc)
theorem bytesOk_cons {a:Int} {b:List Int} (ha:0≤a∧a≤255) (hb:bytesOk b):bytesOk (a :: b):=by
 intro c hc
 rcases List.mem_cons.1 hc with rfl | h
 ·exact ha
 ·exact hb c h
theorem bytesOk_flat {α:Type} {f:α→List Int} (h:∀ x,bytesOk (f x)) (l:List α):bytesOk (l.flatMap f):=by
 intro c hc
 obtain ⟨x,_,hx⟩:=List.mem_flatMap.1 hc
 exact h x c hx

theorem valOkF_ty {ty n:Int} {s:ByteArray} (h:valOkF ty n s = true):ty = 1 ∨ ty = 2:=by
 unfold valOkF at h
 split at h
 ·left; assumption
 ·simp only [Bool.and_eq_true,decide_eq_true_eq] at h; exact .inr h.1

theorem valOkF_len {ty n:Int} {s:ByteArray} (h:valOkF ty n s = true):s.size≤6:=by
 unfold valOkF at h
 split at h
 ·simp only [Bool.and_eq_true,beq_iff_eq] at h
  have:=ba_inj h.2
  rw [this]; decide
 ·simp only [Bool.and_eq_true,decide_eq_true_eq] at h; exact h.2.2.1

theorem valOkF_int {n:Int} (h:-1000000000≤n∧n≤1000000000):valOkF 1 n ⟨#[]⟩ = true:=by
 simp [valOkF,numB,h]

theorem valOkF_one {n:Int} {s:ByteArray} (h:valOkF 1 n s = true):(-1000000000≤n∧n≤1000000000)∧s = ⟨#[]⟩:=by
 simp only [valOkF,if_true,numB,Bool.and_eq_true,decide_eq_true_eq,beq_iff_eq] at h
 exact ⟨h.1,ba_inj h.2⟩

/-- A value's bytes. -/
def putV (v:XVal):List Int:=if valOkF v.Ty v.N v.S = true then (if v.Ty = 1 then encN v.N else (v.S.size:Int) :: bsI v.S) else []
def encVs (l:List XVal):List Int:=l.flatMap putV

theorem putV_ok (v:XVal):bytesOk (putV v):=by
 unfold putV
 split
 ·rename_i h
  have:=valOkF_len h
  split
  ·exact encN_ok _
  ·exact bytesOk_cons (by omega) (bsI_ok _)
 ·exact bytesOk_nil
theorem putV_len (v:XVal):(putV v).length≤7:=by
 unfold putV
 split
 ·rename_i h
  have:=valOkF_len h
  split
  ·have:=encN_len v.N; omega
  ·simp [bsI_len]; omega
 ·simp
theorem encVs_ok (l:List XVal):bytesOk (encVs l):=bytesOk_flat putV_ok l
theorem encVs_len:∀ l:List XVal,(encVs l).length≤7 * l.length
 | [] => by simp [encVs]
 | v :: l => by
  have h1:=putV_len v
  have h2:=encVs_len l
  simp only [encVs] at h2
  simp only [encVs,List.flatMap_cons,List.length_append,List.length_cons]
  omega

def typA (t:Int):List XVal→Bool
 | [] => true
 | v :: l => if valOkF v.Ty v.N v.S = true∧v.Ty = t then typA t l else false
def typF:List XVal→Int
 | [] => 0
 | v :: r => if r.length < 64∧typA v.Ty (v :: r) = true then v.Ty else 0

theorem typA_mem {t:Int}:∀ {l:List XVal},typA t l = true→∀ v ∈ l,valOkF v.Ty v.N v.S = true∧v.Ty = t
 | [],_,v,hv => by simp at hv
 | x :: l,h,v,hv => by
  simp only [typA] at h
  split at h
  ·rename_i hx
   rcases List.mem_cons.1 hv with rfl | hv
   ·exact hx
   ·exact typA_mem h v hv
  ·cases h
theorem typA_of {t:Int}:∀ {l:List XVal},(∀ v ∈ l,valOkF v.Ty v.N v.S = true∧v.Ty = t)→typA t l = true
 | [],_ => rfl
 | x :: l,h => by
  simp only [typA]
  rw [if_pos (h x (by simp))]
  exact typA_of fun v hv => h v (by simp [hv])
theorem typA_append {t:Int} {a b:List XVal} (ha:typA t a = true) (hb:typA t b = true):typA t (a ++ b) = true :=
 typA_of fun v hv => by
  rcases List.mem_append.1 hv with h | h
  ·exact typA_mem ha v h
  ·exact typA_mem hb v h

theorem typF_of {l:List XVal} {t:Int} (h0:0 < l.length) (h:l.length≤64) (ha:typA t l = true):typF l = t:=by
 cases l with
 | nil => simp at h0
 | cons v r =>
  have hv:=typA_mem ha v (by simp)
  simp only [typF]
  rw [hv.2,if_pos ⟨by simp at h; omega,ha⟩]
theorem typF_ne {l:List XVal} (h:typF l ≠ 0):1≤l.length∧l.length≤64∧typA (typF l) l = true∧(typF l = 1 ∨ typF l = 2):=by
 cases l with
 | nil => simp [typF] at h
 | cons v r =>
  simp only [typF] at h ⊢
  split at h
  ·rename_i hh
   rw [if_pos hh]
   exact ⟨by simp,by simp; omega,hh.2,valOkF_ty (typA_mem hh.2 v (by simp)).1⟩
  ·exact absurd rfl h

/-- The plain encoding. -/
def encP (l:List XVal):List Int:=if typF l = 0 then [] else encVs l
theorem encP_ok (l:List XVal):bytesOk (encP l):=by unfold encP; split; exact bytesOk_nil; exact encVs_ok l
theorem encP_len (l:List XVal):(encP l).length≤448:=by
 unfold encP; split
 ·simp
 ·rename_i h
  have:=(typF_ne h).2.1
  have:=encVs_len l
  omega

theorem gN_can {b:List Int} {u n t:Int} (hb:bytesOk b) (h:gN b u = some (n,t)) :
  (-1000000000≤n∧n≤1000000000)∧0≤u∧u < t∧t≤(b.length:Int)∧b.drop u.toNat = encN n ++ b.drop t.toNat:=by
 unfold gN at h
 split at h
 ·rename_i hu
  split at h
  ·rename_i n' k hg
   simp only [Option.some.injEq,Prod.mk.injEq] at h
   obtain ⟨rfl,rfl⟩:=h
   obtain ⟨h1,r,h2,h3⟩:=getN_can (bytesOk_drop _ hb) hg
   have hl:=congrArg List.length h2
   simp only [List.length_drop,List.length_append] at hl
   have hp:1≤(encN n').length:=by
    unfold encN; rw [if_pos h1]; exact vbN_pos _
   refine ⟨h1,hu.1,by omega,by omega,?_⟩
   have e:(u + (k:Int)).toNat = u.toNat + k:=by omega
   rw [e,← List.drop_drop,h2,← h3]
   simp
  ·cases h
 ·cases h

theorem gN_enc {n:Int} (h:-1000000000≤n∧n≤1000000000) (r:List Int):gN (encN n ++ r) 0 = some (n,((encN n).length:Int)):=by
 have hp:1≤(encN n).length:=by
  unfold encN; rw [if_pos h]; exact vbN_pos _
 unfold gN
 rw [if_pos ⟨by omega,by simp only [List.length_append]; omega⟩]
 simp only [Int.toNat_zero,List.drop_zero]
 rw [getN_enc h r]
 simp

/-- A value read. -/
def getV (b:List Int) (u ty:Int):Option (XVal × Int) :=
 if ty = 1 then (match gN b u with
  | some (n,t) => some (⟨1,n,⟨#[]⟩⟩,t)
  | none => none)
 else if ty = 2∧0≤u then (match b[u.toNat]? with
  | some k => if u + 1 + k≤(b.length:Int) then
    (if valOkF 2 0 (strOf ((b.take (u + 1 + k).toNat).drop (u + 1).toNat)) = true then some (⟨2,0,strOf ((b.take (u + 1 + k).toNat).drop (u + 1).toNat)⟩,u + 1 + k) else none)
   else none
  | none => none)
 else none

theorem getV_can {b:List Int} {u ty t:Int} {v:XVal} (hb:bytesOk b) (h:getV b u ty = some (v,t)) :
  (valOkF v.Ty v.N v.S = true∧v.Ty = ty)∧0≤u∧u < t∧t≤(b.length:Int)∧b.drop u.toNat = putV v ++ b.drop t.toNat:=by
 unfold getV at h
 split at h
 ·rename_i hty
  subst hty
  split at h
  ·rename_i n t' hg
   simp only [Option.some.injEq,Prod.mk.injEq] at h
   obtain ⟨rfl,rfl⟩:=h
   obtain ⟨h1,h2,h3,h4,h5⟩:=gN_can hb hg
   refine ⟨⟨valOkF_int h1,rfl⟩,h2,h3,h4,?_⟩
   simp only [putV]
   rw [if_pos (valOkF_int h1)]
   simpa using h5
  ·cases h
 ·split at h
  ·rename_i hty
   obtain ⟨rfl,hu⟩:=hty
   split at h
   ·rename_i k hk
    split at h
    ·rename_i hl
     split at h
     ·rename_i hv
      simp only [Option.some.injEq,Prod.mk.injEq] at h
      obtain ⟨rfl,rfl⟩:=h
      have hk0:=hb k (List.mem_of_getElem? hk)
      obtain ⟨kn,rfl⟩:=Int.eq_ofNat_of_zero_le hk0.1
      obtain ⟨un,rfl⟩:=Int.eq_ofNat_of_zero_le hu
      have e1:((un:Int) + 1 + (kn:Int)).toNat = un + 1 + kn:=by omega
      have e2:((un:Int) + 1).toNat = un + 1:=by omega
      have e3:((un:Int)).toNat = un:=by omega
      rw [e1,e2] at hv
      rw [e3] at hk
      refine ⟨⟨by rw [e1,e2]; exact hv,rfl⟩,by omega,by omega,by omega,?_⟩
      simp only [putV]
      rw [e1,e2,e3,if_pos hv,if_neg (by omega)]
      have hlt:=(List.getElem?_eq_some_iff.1 hk).1
      have hbs:bytesOk ((b.take (un + 1 + kn)).drop (un + 1)):=bytesOk_drop _ (bytesOk_take _ hb)
      have hsz:(strOf ((b.take (un + 1 + kn)).drop (un + 1))).size = kn:=by
       rw [← bsI_len,bsI_strOf hbs]
       simp only [List.length_drop,List.length_take]; omega
      rw [bsI_strOf hbs,hsz,List.drop_eq_getElem_cons hlt,(List.getElem?_eq_some_iff.1 hk).2]
      simp only [List.cons_append,List.cons.injEq,true_and]
      have e4:b.drop (un + 1) = (b.drop (un + 1)).take kn ++ (b.drop (un + 1)).drop kn:=(List.take_append_drop _ _).symm
      rw [e4,List.drop_drop,List.take_drop]
     ·cases h
    ·cases h
   ·cases h
  ·cases h

def getVs (b:List Int) (ty:Int):Nat→Int→Option (List XVal × Int)
 | 0,u => some ([],u)
 | k + 1,u => match getV b u ty with
  | some (v,t) => match getVs b ty k t with
   | some (l,t2) => some (v :: l,t2)
   | none => none
  | none => none

theorem getVs_can {b:List Int} {ty:Int} (hb:bytesOk b):∀ {k:Nat} {u t:Int} {l:List XVal},0≤u→u≤(b.length:Int)→getVs b ty k u = some (l,t) →
  l.length = k∧typA ty l = true∧u≤t∧t≤(b.length:Int)∧b.drop u.toNat = encVs l ++ b.drop t.toNat
 | 0,u,t,l,h0,h1,h => by
  simp only [getVs,Option.some.injEq,Prod.mk.injEq] at h
  obtain ⟨rfl,rfl⟩:=h
  exact ⟨rfl,rfl,by omega,h1,by simp [encVs]⟩
 | k + 1,u,t,l,h0,h1,h => by
  simp only [getVs] at h
  split at h
  ·rename_i v t1 hv
   split at h
   ·rename_i l' t2 hl
    simp only [Option.some.injEq,Prod.mk.injEq] at h
    obtain ⟨rfl,rfl⟩:=h
    obtain ⟨a1,a2,a3,a4,a5⟩:=getV_can hb hv
    obtain ⟨b1,b2,b3,b4,b5⟩:=getVs_can hb (by omega) a4 hl
    refine ⟨by simp [b1],by simp only [typA]; rw [if_pos a1]; exact b2,by omega,b4,?_⟩
    rw [a5,b5]
    simp [encVs]
   ·cases h
  ·cases h

theorem getVs_some {b:List Int} {ty:Int} {a:List XVal} {k:Nat} {u t:Int} {v:XVal} (h:getV b u ty = some (v,t)):preL a (getVs b ty (k + 1) u) = preL (a ++ [v]) (getVs b ty k t):=by
 simp only [getVs,h]
 cases getVs b ty k t with
 | none => rfl
 | some x => simp [preL]
theorem getVs_none {b:List Int} {ty:Int} {a:List XVal} {k:Nat} {u:Int} (h:getV b u ty = none):preL a (getVs b ty (k + 1) u) = none:=by
 simp only [getVs,h]; rfl

/-- The plain decoding. -/
def decP (b:List Int) (ty k:Int):Option (List XVal):=if 1≤k∧k≤64 then (match getVs b ty k.toNat 0 with
 | some (l,t) => if t = (b.length:Int) then some l else none
 | none => none) else none

theorem decP_enc {b:List Int} {ty k:Int} (hb:bytesOk b) {l:List XVal} {t:Int} (hk:1≤k∧k≤64) (h:getVs b ty k.toNat 0 = some (l,t)) :
  ((l.length:Int) = k)∧typF l = ty∧(b = encP l ↔ t = (b.length:Int)):=by
 obtain ⟨h1,h2,h3,h4,h5⟩:=getVs_can hb (Int.le_refl _) (by omega) h
 have hl:0 < l.length:=by omega
 have ht:=typF_of hl (by omega) h2
 have hne:typF l ≠ 0:=by
  cases l with
  | nil => simp at hl
  | cons v r =>
   have:=typA_mem h2 v (by simp)
   have:=valOkF_ty this.1
   omega
 refine ⟨by omega,ht,?_⟩
 unfold encP
 rw [if_neg hne]
 simp only [Int.toNat_zero,List.drop_zero] at h5
 constructor
 ·intro e
  have hl2:=congrArg List.length h5
  rw [← e] at hl2
  simp only [List.length_append,List.length_drop] at hl2
  omega
 ·intro e
  rw [e] at h5
  simpa using h5

structure XRun where
 V:XVal
 K:Int
 deriving Inhabited
@[simp] def XRun.e (x:XRun):List D:=[di x.V.Ty,di x.V.N,.str x.V.S,di x.K]

/-- Runs: the last run may grow. -/
def runAdd (o:List XRun) (v:XVal):List XRun:=match o.getLast? with
 | some r => if valEq r.V v = true then o.dropLast ++ [⟨r.V,r.K + 1⟩] else o ++ [⟨v,1⟩]
 | none => [⟨v,1⟩]
def runsG (o:List XRun):List XVal→List XRun
 | [] => o
 | v :: l => runsG (runAdd o v) l
def runsF (l:List XVal):List XRun:=runsG [] l

def putR (r:XRun):List Int:=encN r.K ++ putV r.V
theorem putR_ok (r:XRun):bytesOk (putR r):=bytesOk_append (encN_ok _) (putV_ok _)
theorem putR_len (r:XRun):(putR r).length≤12:=by
 have:=encN_len r.K
 have:=putV_len r.V
 simp only [putR,List.length_append]; omega

theorem runAdd_len (o:List XRun) (v:XVal):(runAdd o v).length≤o.length + 1:=by
 unfold runAdd
 split
 ·split
  ·rename_i r hr _
   have:o ≠ []:=fun e => by rw [e] at hr; simp at hr
   have:=List.length_pos_iff.2 this
   simp <;> omega
  ·simp
 ·simp
theorem runsG_len:∀ (l:List XVal) (o:List XRun),(runsG o l).length≤o.length + l.length
 | [],o => by simp [runsG]
 | v :: l,o => by
  have:=runsG_len l (runAdd o v)
  have:=runAdd_len o v
  simp only [runsG,List.length_cons]; omega
theorem runsF_len (l:List XVal):(runsF l).length≤l.length:=by
 have:=runsG_len l []
 simpa [runsF] using this

def encRs (l:List XRun):List Int:=l.flatMap putR
theorem encRs_len:∀ l:List XRun,(encRs l).length≤12 * l.length
 | [] => by simp [encRs]
 | v :: l => by
  have h1:=putR_len v
  have h2:=encRs_len l
  simp only [encRs] at h2
  simp only [encRs,List.flatMap_cons,List.length_append,List.length_cons]
  omega
def encR (l:List XVal):List Int:=if typF l = 0 then [] else encN (runsF l).length ++ encRs (runsF l)
theorem encR_ok (l:List XVal):bytesOk (encR l):=by
 unfold encR; split; exact bytesOk_nil; exact bytesOk_append (encN_ok _) (bytesOk_flat putR_ok _)
theorem encR_len (l:List XVal):(encR l).length≤1000:=by
 unfold encR; split
 ·simp
 ·rename_i h
  have:=(typF_ne h).2.1
  have:=runsF_len l
  have:=encRs_len (runsF l)
  have:=encN_len ((runsF l).length:Int)
  simp only [List.length_append]; omega

def spG (o:List XVal):List XRun→List XVal
 | [] => o
 | r :: l => if r.K < 1 ∨ 64 - (o.length:Int) < r.K then [] else spG (o ++ List.replicate r.K.toNat r.V) l
def spreadF (l:List XRun):List XVal:=spG [] l
theorem spG_len:∀ (l:List XRun) (o:List XVal),o.length≤64→(spG o l).length≤64
 | [],o,h => h
 | r :: l,o,h => by
  simp only [spG]
  split
  ·simp
  ·exact spG_len l _ (by simp; omega)
theorem spreadF_len (l:List XRun):(spreadF l).length≤64:=spG_len l [] (by simp)

def getR (b:List Int) (u ty:Int):Option (XRun × Int):=match gN b u with
 | some (n,t) => match getV b t ty with
  | some (v,t2) => some (⟨v,n⟩,t2)
  | none => none
 | none => none
def getRs (b:List Int) (ty:Int):Nat→Int→Option (List XRun × Int)
 | 0,u => some ([],u)
 | k + 1,u => match getR b u ty with
  | some (v,t) => match getRs b ty k t with
   | some (l,t2) => some (v :: l,t2)
   | none => none
  | none => none
theorem getRs_some {b:List Int} {ty:Int} {a:List XRun} {k:Nat} {u t:Int} {v:XRun} (h:getR b u ty = some (v,t)):preL a (getRs b ty (k + 1) u) = preL (a ++ [v]) (getRs b ty k t):=by
 simp only [getRs,h]
 cases getRs b ty k t with
 | none => rfl
 | some x => simp [preL]
theorem getRs_none {b:List Int} {ty:Int} {a:List XRun} {k:Nat} {u:Int} (h:getR b u ty = none):preL a (getRs b ty (k + 1) u) = none:=by
 simp only [getRs,h]; rfl

/-- Values decoded by an encoding that is compared. -/
def chkE (b:List Int) (k:Int) (e:List XVal→List Int) (l:List XVal):Option (List XVal):=if (1≤k∧k≤64)∧(l.length:Int) = k∧b = e l then some l else none

def decR (b:List Int) (ty k:Int):Option (List XVal):=match gN b 0 with
 | some (n,u) => if 1≤n∧n≤64 then (match getRs b ty n.toNat u with
  | some (r,_) => chkE b k encR (spreadF r)
  | none => none) else none
 | none => none

def ltVF (t n:Int) (s:ByteArray) (t' n':Int) (s':ByteArray):Bool:=if t = t' then (if n = n' then Op.bytesLess s.toList s'.toList else decide (n < n')) else decide (t < t')
def ltV (a b:XVal):Bool:=ltVF a.Ty a.N a.S b.Ty b.N b.S

theorem bless_irrefl:∀ x:List UInt8,Op.bytesLess x x = false
 | [] => rfl
 | a :: x => by simp [Op.bytesLess,bless_irrefl x]
theorem bless_trans:∀ x y z:List UInt8,Op.bytesLess x y = true→Op.bytesLess y z = true→Op.bytesLess x z = true
 | _,[],_,h,_ => by simp [Op.bytesLess] at h
 | _,_ :: _,[],_,h => by simp [Op.bytesLess] at h
 | [],_ :: _,_ :: _,_,_ => rfl
 | a :: x,b :: y,c :: z,h1,h2 => by
  simp only [Op.bytesLess,Bool.or_eq_true,Bool.and_eq_true,decide_eq_true_eq,beq_iff_eq] at h1 h2 ⊢
  rcases h1 with h1 | ⟨rfl,h1⟩
  ·rcases h2 with h2 | ⟨rfl,h2⟩
   ·exact .inl (UInt8.lt_trans h1 h2)
   ·exact .inl h1
  ·rcases h2 with h2 | ⟨rfl,h2⟩
   ·exact .inl h2
   ·exact .inr ⟨rfl,bless_trans x y z h1 h2⟩
theorem bless_tri:∀ x y:List UInt8,Op.bytesLess x y = false→Op.bytesLess y x = false→x = y
 | [],[],_,_ => rfl
 | [],_ :: _,h,_ => by simp [Op.bytesLess] at h
 | _ :: _,[],_,h => by simp [Op.bytesLess] at h
 | a :: x,b :: y,h1,h2 => by
  simp only [Op.bytesLess,Bool.or_eq_false_iff,Bool.and_eq_false_iff,decide_eq_false_iff_not,beq_eq_false_iff_ne] at h1 h2
  have e:a = b:=by
   apply UInt8.le_antisymm
   ·exact UInt8.not_lt.1 h2.1
   ·exact UInt8.not_lt.1 h1.1
  subst e
  rw [bless_tri x y (h1.2.resolve_left (fun h => h rfl)) (h2.2.resolve_left (fun h => h rfl))]

theorem ltV_iff (a b:XVal):ltV a b = true ↔ a.Ty < b.Ty ∨ (a.Ty = b.Ty∧(a.N < b.N ∨ (a.N = b.N∧Op.bytesLess a.S.toList b.S.toList = true))):=by
 unfold ltV ltVF
 split
 ·split
  ·constructor
   ·intro h; exact .inr ⟨by assumption,.inr ⟨by assumption,h⟩⟩
   ·rintro (h | ⟨_,h | h⟩)
    ·omega
    ·omega
    ·exact h.2
  ·simp only [decide_eq_true_eq]
   constructor
   ·intro h; exact .inr ⟨by assumption,.inl h⟩
   ·rintro (h | ⟨_,h | h⟩)
    ·omega
    ·exact h
    ·exact absurd h.1 (by assumption)
 ·simp only [decide_eq_true_eq]
  constructor
  ·intro h; exact .inl h
  ·rintro (h | ⟨h,_⟩)
   ·exact h
   ·exact absurd h (by assumption)

theorem ltV_irrefl (a:XVal):ltV a a = false:=by
 simp [ltV,ltVF,bless_irrefl]
theorem ltV_trans {a b c:XVal} (h1:ltV a b = true) (h2:ltV b c = true):ltV a c = true:=by
 rw [ltV_iff] at *
 rcases h1 with h1 | ⟨e1,h1⟩ <;> rcases h2 with h2 | ⟨e2,h2⟩
 ·left; omega
 ·left; omega
 ·left; omega
 ·right
  refine ⟨by omega,?_⟩
  rcases h1 with h1 | ⟨f1,h1⟩ <;> rcases h2 with h2 | ⟨f2,h2⟩
  ·left; omega
  ·left; omega
  ·left; omega
  ·exact .inr ⟨by omega,bless_trans _ _ _ h1 h2⟩
theorem ltV_tri {a b:XVal} (h1:ltV a b = false) (h2:ltV b a = false):a = b:=by
 rw [Bool.eq_false_iff,ne_eq,ltV_iff] at h1 h2
 obtain ⟨t,n,s⟩:=a
 obtain ⟨t',n',s'⟩:=b
 simp only at h1 h2
 have e1:t = t':=by omega
 subst e1
 have e2:n = n':=by
  rcases Int.lt_trichotomy n n' with h | h | h
  ·exact absurd (.inr ⟨rfl,.inl h⟩) h1
  ·exact h
  ·exact absurd (.inr ⟨rfl,.inl h⟩) h2
 subst e2
 have e3:s.toList = s'.toList:=by
  apply bless_tri
  ·cases hh:Op.bytesLess s.toList s'.toList with
   | false => rfl
   | true => exact absurd (.inr ⟨rfl,.inr ⟨rfl,hh⟩⟩) h1
  ·cases hh:Op.bytesLess s'.toList s.toList with
   | false => rfl
   | true => exact absurd (.inr ⟨rfl,.inr ⟨rfl,hh⟩⟩) h2
 rw [ba_inj e3]
theorem ltV_asymm {a b:XVal} (h:ltV a b = true):ltV b a = false:=by
 cases hh:ltV b a with
 | false => rfl
 | true => have:=ltV_trans h hh; rw [ltV_irrefl] at this; cases this

def cmpV (a b:XVal):Int:=if ltV a b = true then -1 else if ltV b a = true then 1 else 0

def SrtV (l:List XVal):Prop:=l.Pairwise fun a b => ltV a b = true

/-- The dictionary: each value once,in order. -/
def insV (v:XVal):List XVal→List XVal
 | [] => [v]
 | x :: l => if ltV x v = true then x :: insV v l else if valEq x v = true then x :: l else v :: x :: l
def dictG (d:List XVal):List XVal→List XVal
 | [] => d
 | v :: l => dictG (insV v d) l
def dictF (l:List XVal):List XVal:=dictG [] l

theorem insV_mem {v:XVal}:∀ {d:List XVal} {x:XVal},x ∈ insV v d ↔ x = v ∨ x ∈ d
 | [],x => by simp [insV]
 | y :: d,x => by
  simp only [insV]
  split
  ·simp only [List.mem_cons,insV_mem (d:=d)]
   constructor
   ·rintro (h | h | h)
    ·exact .inr (.inl h)
    ·exact .inl h
    ·exact .inr (.inr h)
   ·rintro (h | h | h)
    ·exact .inr (.inl h)
    ·exact .inl h
    ·exact .inr (.inr h)
  ·split
   ·rename_i h
    have:=valEq_iff.1 h
    subst this
    simp only [List.mem_cons]
    constructor
    ·exact fun h => .inr h
    ·rintro (h | h)
     ·exact .inl h
     ·exact h
   ·simp only [List.mem_cons]
theorem insV_srt {v:XVal}:∀ {d:List XVal},SrtV d→SrtV (insV v d)
 | [],_ => by simp [insV,SrtV]
 | y :: d,h => by
  unfold SrtV at h
  rw [List.pairwise_cons] at h
  simp only [insV]
  split
  ·rename_i h1
   refine List.pairwise_cons.2 ⟨fun x hx => ?_,insV_srt h.2⟩
   rcases insV_mem.1 hx with rfl | hx
   ·exact h1
   ·exact h.1 x hx
  ·split
   ·exact List.pairwise_cons.2 h
   ·rename_i h1 h2
    have h3:ltV v y = true:=by
     cases hh:ltV v y with
     | true => rfl
     | false => exact absurd (valEq_iff.2 (ltV_tri (by simpa using h1) hh)) h2
    refine List.pairwise_cons.2 ⟨fun x hx => ?_,List.pairwise_cons.2 h⟩
    rcases List.mem_cons.1 hx with rfl | hx
    ·exact h3
    ·exact ltV_trans h3 (h.1 x hx)
theorem insV_len (v:XVal):∀ d:List XVal,(insV v d).length≤d.length + 1
 | [] => by simp [insV]
 | y :: d => by
  have:=insV_len v d
  simp only [insV]
  split
  ·simp; omega
  ·split <;> simp
theorem dictG_mem:∀ {l d:List XVal} {x:XVal},x ∈ dictG d l ↔ x ∈ d ∨ x ∈ l
 | [],d,x => by simp [dictG]
 | v :: l,d,x => by
  simp only [dictG,dictG_mem (l:=l),insV_mem,List.mem_cons]
  constructor
  ·rintro ((h | h) | h)
   ·exact .inr (.inl h)
   ·exact .inl h
   ·exact .inr (.inr h)
  ·rintro (h | h | h)
   ·exact .inl (.inr h)
   ·exact .inl (.inl h)
   ·exact .inr h
theorem dictG_srt:∀ {l d:List XVal},SrtV d→SrtV (dictG d l)
 | [],_,h => h
 | _ :: l,_,h => dictG_srt (l:=l) (insV_srt h)
theorem dictG_len:∀ l d:List XVal,(dictG d l).length≤d.length + l.length
 | [],d => by simp [dictG]
 | v :: l,d => by
  have:=dictG_len l (insV v d)
  have:=insV_len v d
  simp only [dictG,List.length_cons]; omega
theorem dictF_mem {l:List XVal} {x:XVal}:x ∈ dictF l ↔ x ∈ l:=by simp [dictF,dictG_mem]
theorem dictF_srt (l:List XVal):SrtV (dictF l):=dictG_srt (by simp [SrtV])
theorem dictF_len (l:List XVal):(dictF l).length≤l.length:=by simpa [dictF] using dictG_len l []

theorem srtV_unique:∀ {A B:List XVal},(∀ x,x ∈ A ↔ x ∈ B)→SrtV A→SrtV B→A = B
 | [],[],_,_,_ => rfl
 | [],b :: B,h,_,_ => by have:=(h b).2 (by simp); simp at this
 | a :: A,[],h,_,_ => by have:=(h a).1 (by simp); simp at this
 | a :: A,b :: B,h,h1,h2 => by
  unfold SrtV at h1 h2
  rw [List.pairwise_cons] at h1 h2
  have e:a = b:=by
   rcases List.mem_cons.1 ((h a).1 (by simp)) with e | ha
   ·exact e
   ·rcases List.mem_cons.1 ((h b).2 (by simp)) with e | hb
    ·exact e.symm
    ·have:=ltV_asymm (h1.1 b hb)
     rw [h2.1 a ha] at this; cases this
  subst e
  rw [srtV_unique (A:=A) (B:=B) (fun x => ?_) h1.2 h2.2]
  constructor
  ·intro hx
   rcases List.mem_cons.1 ((h x).1 (by simp [hx])) with e | hb
   ·subst e; have:=h1.1 x hx; rw [ltV_irrefl] at this; cases this
   ·exact hb
  ·intro hx
   rcases List.mem_cons.1 ((h x).2 (by simp [hx])) with e | hb
   ·subst e; have:=h2.1 x hx; rw [ltV_irrefl] at this; cases this
   ·exact hb

/-- Equal neighbours become one. -/
def compG (p:XVal):List XVal→List XVal
 | [] => [p]
 | v :: l => if valEq v p = true then compG p l else p :: compG v l
def compF:List XVal→List XVal
 | [] => []
 | v :: l => compG v l

theorem compG_mem:∀ {l:List XVal} {p x:XVal},x ∈ compG p l ↔ x = p ∨ x ∈ l
 | [],p,x => by simp [compG]
 | v :: l,p,x => by
  simp only [compG]
  split
  ·rename_i h
   have:=valEq_iff.1 h
   subst this
   rw [compG_mem]
   simp only [List.mem_cons]
   constructor
   ·rintro (h | h)
    ·exact .inl h
    ·exact .inr (.inr h)
   ·rintro (h | h | h)
    ·exact .inl h
    ·exact .inl h
    ·exact .inr h
  ·simp only [List.mem_cons,compG_mem (l:=l)]
theorem compG_srt:∀ {l:List XVal} {p:XVal},(p :: l).Pairwise (fun a b => ltV b a = false)→SrtV (compG p l)
 | [],p,_ => by simp [compG,SrtV]
 | v :: l,p,h => by
  rw [List.pairwise_cons] at h
  simp only [compG]
  split
  ·rename_i hv
   have:=valEq_iff.1 hv
   subst this
   exact compG_srt h.2
  ·rename_i hv
   have hp:ltV p v = true:=by
    cases hh:ltV p v with
    | true => rfl
    | false => exact absurd (valEq_iff.2 (ltV_tri (h.1 v (by simp)) hh)) hv
   refine List.pairwise_cons.2 ⟨fun x hx => ?_,compG_srt h.2⟩
   rcases compG_mem.1 hx with rfl | hx
   ·exact hp
   ·have h2:=(List.pairwise_cons.1 h.2).1 x hx
    cases hh:ltV p x with
    | true => rfl
    | false =>
     have:=ltV_tri hh (h.1 x (by simp [hx]))
     subst this
     rw [hp] at h2; cases h2

def sortV (l:List XVal):List XVal:=l.mergeSort fun x y => !ltV y x

theorem sortV_mem {l:List XVal} {x:XVal}:x ∈ sortV l ↔ x ∈ l:=(List.mergeSort_perm _ _).mem_iff
theorem sortV_len (l:List XVal):(sortV l).length = l.length:=List.length_mergeSort _
theorem sortV_srt (l:List XVal):(sortV l).Pairwise fun a b => ltV b a = false:=by
 have:=List.pairwise_mergeSort (le:=fun x y => !ltV y x) (fun a b c h1 h2 => by
  simp only [Bool.not_eq_true'] at h1 h2 ⊢
  cases hh:ltV c a with
  | false => rfl
  | true =>
   cases h3:ltV a b with
   | true => rw [ltV_trans hh h3] at h2; cases h2
   | false =>
    have:=ltV_tri h3 h1
    subst this
    rw [hh] at h2; cases h2) (fun a b => by
  cases hh:ltV b a with
  | false => simp
  | true => simp [ltV_asymm hh]) l
 exact this.imp (by intro a b h; simpa using h)

theorem comp_sort (l:List XVal):compF (sortV l) = dictF l:=by
 apply srtV_unique _ _ (dictF_srt l)
 ·intro x
  rw [dictF_mem]
  have hm:=sortV_mem (l:=l) (x:=x)
  cases h:sortV l with
  | nil => rw [h] at hm; rw [← hm]; simp [compF]
  | cons v r => rw [h] at hm; rw [← hm]; simp [compF,compG_mem]
 ·have:=sortV_srt l
  cases h:sortV l with
  | nil => simp [compF,SrtV]
  | cons v r => rw [h] at this; exact compG_srt this

/-- Where a value stands in a dictionary. -/
def inD (v:XVal):List XVal→Int→Int
 | [],_ => -1
 | x :: d,i => if valEq x v = true then i else inD v d (i + 1)
theorem inD_rng (v:XVal):∀ (d:List XVal) (i:Int),0≤i→inD v d i = -1 ∨ (0≤inD v d i∧inD v d i < i + (d.length:Int))
 | [],i,_ => .inl rfl
 | x :: d,i,hi => by
  simp only [inD]
  split
  ·right; simp; omega
  ·have:=inD_rng v d (i + 1) (by omega)
   simp only [List.length_cons]; omega
def placesF (d:List XVal):List XVal→Option (List Int)
 | [] => some []
 | v :: l => if inD v d 0 < 0 then none else match placesF d l with
  | some p => some (inD v d 0 :: p)
  | none => none
def placesD (d l:List XVal):List Int:=match placesF d l with
 | some p => p
 | none => []
theorem placesF_len (d:List XVal):∀ {l:List XVal} {p:List Int},placesF d l = some p→p.length = l.length
 | [],p,h => by simp [placesF] at h; subst h; rfl
 | v :: l,p,h => by
  simp only [placesF] at h
  split at h
  ·cases h
  ·split at h
   ·rename_i q hq
    simp at h; subst h
    simp [placesF_len d hq]
   ·cases h
theorem placesD_len (d l:List XVal):(placesD d l).length≤l.length:=by
 unfold placesD; split
 ·rename_i p hp; rw [placesF_len d hp]; omega
 ·simp
def pickF (d:List XVal):List Int→Option (List XVal)
 | [] => some []
 | i :: l => if 0≤i then (match d[i.toNat]? with
  | some v => match pickF d l with
   | some r => some (v :: r)
   | none => none
  | none => none) else none
theorem pickF_len (d:List XVal):∀ {l:List Int} {r:List XVal},pickF d l = some r→r.length = l.length
 | [],r,h => by simp [pickF] at h; subst h; rfl
 | i :: l,r,h => by
  simp only [pickF] at h
  split at h
  ·split at h
   ·split at h
    ·rename_i q hq
     simp at h; subst h
     simp [pickF_len d hq]
    ·cases h
   ·cases h
  ·cases h

def encD (l:List XVal):List Int:=if typF l = 0 then [] else
 encN (dictF l).length ++ encVs (dictF l) ++ packF (placesD (dictF l) l) (widI ((dictF l).length - 1))
theorem encD_ok (l:List XVal):bytesOk (encD l):=by
 unfold encD; split; exact bytesOk_nil; exact bytesOk_append (bytesOk_append (encN_ok _) (encVs_ok _)) (packF_ok _ _)
theorem encD_len (l:List XVal):(encD l).length≤1000:=by
 unfold encD; split
 ·simp
 ·rename_i h
  have:=(typF_ne h).2.1
  have:=dictF_len l
  have:=encVs_len (dictF l)
  have:=encN_len ((dictF l).length:Int)
  have:=packF_len (placesD (dictF l) l) (widI ((dictF l).length - 1))
  have:=placesD_len (dictF l) l
  simp only [List.length_append]; omega

/-- The dictionary decoded; most: the bound on its size. -/
def decDn (most:Int) (b:List Int) (ty k:Int):Option (List XVal):=match gN b 0 with
 | some (n,u) => if 1≤n∧n≤most then (match getVs b ty n.toNat u with
  | some (d,t) => match unpF (b.drop t.toNat) (widI (n - 1)) k with
   | some p => match pickF d p with
    | some l => chkE b k encD l
    | none => none
   | none => none
  | none => none) else none
 | none => none
def decD (b:List Int) (ty k:Int):Option (List XVal):=decDn k b ty k

theorem chkE_some {b:List Int} {k:Int} {e:List XVal→List Int} {l l':List XVal} (h:chkE b k e l = some l'):l' = l∧(1≤k∧k≤64)∧(l.length:Int) = k∧b = e l:=by
 unfold chkE at h
 split at h
 ·simp at h; exact ⟨h.symm,by assumption⟩
 ·cases h

theorem decD_eq (b:List Int) (ty k:Int) (hk:1≤k∧k≤64):decDn 64 b ty k = decD b ty k:=by
 unfold decD decDn
 cases hg:gN b 0 with
 | none => rfl
 | some q =>
  obtain ⟨n,u⟩:=q
  simp only
  by_cases h1:1≤n∧n≤64
  ·rw [if_pos h1]
   by_cases h2:n≤k
   ·rw [if_pos ⟨h1.1,h2⟩]
   ·rw [if_neg (fun e => h2 e.2)]
    cases hv:getVs b ty n.toNat u with
    | none => rfl
    | some q =>
     obtain ⟨d,t⟩:=q
     simp only
     cases hu:unpF (b.drop t.toNat) (widI (n - 1)) k with
     | none => rfl
     | some p =>
      simp only
      cases hp:pickF d p with
      | none => rfl
      | some l =>
       simp only
       cases hc:chkE b k encD l with
       | none => rfl
       | some l' =>
        exfalso
        obtain ⟨rfl,_,hl,he⟩:=chkE_some hc
        have hne:typF l' ≠ 0:=by
         intro e
         rw [encD,if_pos e] at he
         subst he
         simp [gN] at hg
        have:=dictF_len l'
        have:=(typF_ne hne).2.1
        rw [encD,if_neg hne,List.append_assoc] at he
        rw [he,gN_enc (by omega)] at hg
        simp at hg
        omega
  ·rw [if_neg h1,if_neg (fun e => h1 ⟨e.1,by omega⟩)]

/-- Frames. -/
def baseG (m:Int):List XVal→Int
 | [] => m
 | v :: l => baseG (if v.N < m then v.N else m) l
def baseF:List XVal→Int
 | [] => 0
 | v :: l => baseG v.N l
theorem baseG_le:∀ (l:List XVal) (m:Int),baseG m l≤m∧(∀ v ∈ l,baseG m l≤v.N)∧(baseG m l = m ∨ ∃ v ∈ l,baseG m l = v.N)
 | [],m => by simp [baseG]
 | x :: l,m => by
  obtain ⟨h1,h2,h3⟩:=baseG_le l (if x.N < m then x.N else m)
  simp only [baseG]
  refine ⟨?_,?_,?_⟩
  ·revert h1; split <;> intro h1 <;> omega
  ·intro v hv
   rcases List.mem_cons.1 hv with rfl | hv
   ·revert h1; split <;> intro h1 <;> omega
   ·exact h2 v hv
  ·rcases h3 with h3 | ⟨v,hv,h3⟩
   ·rw [h3]
    split
    ·exact .inr ⟨x,by simp,rfl⟩
    ·exact .inl rfl
   ·exact .inr ⟨v,by simp [hv],h3⟩
theorem baseF_le {l:List XVal} (h:0 < l.length):(∀ v ∈ l,baseF l≤v.N)∧∃ v ∈ l,baseF l = v.N:=by
 cases l with
 | nil => simp at h
 | cons x l =>
  obtain ⟨h1,h2,h3⟩:=baseG_le l x.N
  simp only [baseF]
  refine ⟨fun v hv => ?_,?_⟩
  ·rcases List.mem_cons.1 hv with rfl | hv
   ·exact h1
   ·exact h2 v hv
  ·rcases h3 with h3 | ⟨v,hv,h3⟩
   ·exact ⟨x,by simp,h3⟩
   ·exact ⟨v,by simp [hv],h3⟩
def offsF (l:List XVal):List Int:=l.map fun v => v.N - baseF l

theorem typ1 {l:List XVal} (h:typF l = 1):1≤l.length∧l.length≤64∧∀ v ∈ l,v.Ty = 1∧v.S = ⟨#[]⟩∧(-1000000000≤v.N∧v.N≤1000000000):=by
 obtain ⟨h1,h2,h3,_⟩:=typF_ne (l:=l) (by omega)
 rw [h] at h3
 refine ⟨h1,h2,fun v hv => ?_⟩
 obtain ⟨h4,h5⟩:=typA_mem h3 v hv
 rw [h5] at h4
 have:=valOkF_one h4
 exact ⟨h5,this.2,this.1⟩

def encF (l:List XVal):List Int:=if typF l = 1 then encN (baseF l) ++ wfF 0 (offsF l) :: packF (offsF l) (wfF 0 (offsF l)) else []
theorem wf_rng (l:List Int):0≤wfF 0 l∧wfF 0 l≤31:=wfF_rng l 0 (by omega)
theorem encF_ok (l:List XVal):bytesOk (encF l):=by
 unfold encF; split
 ·have:=wf_rng (offsF l)
  exact bytesOk_append (encN_ok _) (bytesOk_cons (by omega) (packF_ok _ _))
 ·exact bytesOk_nil
theorem encF_len (l:List XVal):(encF l).length≤1000:=by
 unfold encF; split
 ·rename_i h
  have:=(typ1 h).2.1
  have:=encN_len (baseF l)
  have:=packF_len (offsF l) (wfF 0 (offsF l))
  have:(offsF l).length = l.length:=by simp [offsF]
  simp only [List.length_append,List.length_cons]; omega
 ·simp

def raiseL (base:Int):List Int→Option (List XVal)
 | [] => some []
 | x :: l => if (0≤x∧x≤2000000000)∧base + x≤1000000000 then (match raiseL base l with
  | some r => some (⟨1,base + x,⟨#[]⟩⟩ :: r)
  | none => none) else none
def raiseF (base:Int) (l:List Int):Option (List XVal):=if numB base = true then raiseL base l else none
theorem raiseL_len (base:Int):∀ {l:List Int} {r:List XVal},raiseL base l = some r→r.length = l.length
 | [],r,h => by simp [raiseL] at h; subst h; rfl
 | i :: l,r,h => by
  simp only [raiseL] at h
  split at h
  ·split at h
   ·rename_i q hq
    simp at h; subst h
    simp [raiseL_len base hq]
   ·cases h
  ·cases h

def decF (b:List Int) (k:Int):Option (List XVal):=match gN b 0 with
 | some (n,u) => match b[u.toNat]? with
  | some w => match unpF (b.drop (u + 1).toNat) w k with
   | some p => match raiseF n p with
    | some l => chkE b k encF l
    | none => none
   | none => none
  | none => none
 | none => none

/-- Encodings by kind. -/
def encBy (kind:Int) (l:List XVal):List Int:=if kind = 0 then encP l else if kind = 1 then encR l else if kind = 2 then encD l else if kind = 3 then encF l else []
theorem encBy_ok (kind:Int) (l:List XVal):bytesOk (encBy kind l):=by
 unfold encBy
 split; exact encP_ok l
 split; exact encR_ok l
 split; exact encD_ok l
 split; exact encF_ok l
 exact bytesOk_nil
theorem encBy_len (kind:Int) (l:List XVal):(encBy kind l).length≤1000:=by
 unfold encBy
 split; exact Nat.le_trans (encP_len l) (by omega)
 split; exact encR_len l
 split; exact encD_len l
 split; exact encF_len l
 simp
def lenBy (kind:Int) (l:List XVal):Int:=((encBy kind l).length:Int)
def bestF (l:List XVal):Int :=
 let t:=typF l
 if t = 0 then -1 else
 let b1:=if lenBy 1 l < lenBy 0 l then 1 else 0
 let b2:=if lenBy 2 l < lenBy b1 l then 2 else b1
 if t = 1∧lenBy 3 l < lenBy b2 l then 3 else b2
theorem bestF_rng (l:List XVal):bestF l = -1 ∨ (0≤bestF l∧bestF l≤3):=by
 unfold bestF
 simp only
 split
 ·exact .inl rfl
 ·right
  split
  ·omega
  ·split
   ·omega
   ·split <;> omega
def encC (l:List XVal):List Int:=if bestF l < 0 then [] else bestF l :: encBy (bestF l) l
theorem encC_ok (l:List XVal):bytesOk (encC l):=by
 unfold encC; split
 ·exact bytesOk_nil
 ·have:=bestF_rng l
  exact bytesOk_cons (by omega) (encBy_ok _ _)
theorem encC_len (l:List XVal):(encC l).length≤1001:=by
 unfold encC; split
 ·simp
 ·have:=encBy_len (bestF l) l
  simp; omega

def decBy (kind:Int) (b:List Int) (ty k:Int):Option (List XVal):=if kind = 0 then decP b ty k else if kind = 1 then decR b ty k else if kind = 2 then decD b ty k else if kind = 3 then decF b k else none
def decC (b:List Int) (ty k:Int):Option (List XVal):=match b with
 | [] => none
 | c :: r => match decBy c r ty k with
  | some l => if typF l = ty∧b = encC l then some l else none
  | none => none

theorem decP_len {b:List Int} {ty k:Int} {l:List XVal} (hb:bytesOk b) (h:decP b ty k = some l):(l.length:Int) = k:=by
 unfold decP at h
 split at h
 ·rename_i hk
  split at h
  ·rename_i l' t hg
   split at h
   ·simp at h; subst h
    exact (decP_enc hb hk hg).1
   ·cases h
  ·cases h
 ·cases h
theorem decR_len {b:List Int} {ty k:Int} {l:List XVal} (h:decR b ty k = some l):(l.length:Int) = k:=by
 unfold decR at h
 split at h
 ·split at h
  ·split at h
   ·obtain ⟨rfl,_,h1,_⟩:=chkE_some h; exact h1
   ·cases h
  ·cases h
 ·cases h
theorem decD_len {b:List Int} {ty k:Int} {l:List XVal} (h:decD b ty k = some l):(l.length:Int) = k:=by
 unfold decD decDn at h
 split at h
 ·split at h
  ·split at h
   ·split at h
    ·split at h
     ·obtain ⟨rfl,_,h1,_⟩:=chkE_some h; exact h1
     ·cases h
    ·cases h
   ·cases h
  ·cases h
 ·cases h
theorem decF_len {b:List Int} {k:Int} {l:List XVal} (h:decF b k = some l):(l.length:Int) = k:=by
 unfold decF at h
 split at h
 ·split at h
  ·split at h
   ·split at h
    ·obtain ⟨rfl,_,h1,_⟩:=chkE_some h; exact h1
    ·cases h
   ·cases h
  ·cases h
 ·cases h
theorem decBy_len {kind:Int} {b:List Int} {ty k:Int} {l:List XVal} (hb:bytesOk b) (h:decBy kind b ty k = some l):(l.length:Int) = k:=by
 unfold decBy at h
 split at h; exact decP_len hb h
 split at h; exact decR_len h
 split at h; exact decD_len h
 split at h; exact decF_len h
 cases h
theorem decC_some {b:List Int} {ty k:Int} {l:List XVal} (hb:bytesOk b) (h:decC b ty k = some l):(l.length:Int) = k∧typF l = ty∧b = encC l:=by
 unfold decC at h
 split at h
 ·cases h
 ·rename_i c r
  split at h
  ·rename_i l' hl
   split at h
   ·rename_i hh
    simp at h; subst h
    exact ⟨decBy_len (fun x hx => hb x (by simp [hx])) hl,hh⟩
   ·cases h
  ·cases h

@[simp] theorem t526 (k0:Bool) (l:List XVal) (h:l.length≤1048576) (hs:XVal.sms l):Gw TT 526 [.one (.ro k0 (.sl 3 (l.map XVal.e)))] = some (vi (typF l),[]):=by
 refine Ga pf526 pb526 ?_
 unfold pb526
 by_cases q:1≤l.length∧l.length≤64
 ·have q1:(1:Int)≤(l.length:Int):=by omega
  have q2:(l.length:Int)≤64:=by omega
  obtain ⟨v0,hv0⟩:∃ v,l[0]? = some v:=⟨_,List.getElem?_eq_getElem (by omega)⟩
  obtain ⟨hl0,he0⟩:=List.getElem?_eq_some_iff.1 hv0
  have hty:typF l = if typA v0.Ty l = true then v0.Ty else 0:=by
   cases l with
   | nil => simp at hl0
   | cons x r =>
    simp at hv0; subst hv0
    simp only [typF]
    have:r.length < 64:=by simp at q; omega
    simp [this]
  refine Uw (J5 q1 q2 hl0 hv0 he0) ?_
  refine wp_loopI (σ:=List XVal × List XVal) (fun s => [(0,AV.v k0 (D.sl 3 (l.map XVal.e)),none),(9,AV.v k0 (D.sl 3 (l.map XVal.e)),none),(10,AV.v false (di (l.length:Nat)),none),(11,AV.v false (di ((s.1.length:Nat):Int)),none)]) (fun s => l = s.1 ++ s.2∧typA v0.Ty s.2 = typA v0.Ty l) (fun s => s.2.length) ([],l) (by simp) ⟨rfl,rfl⟩ ?_
  rintro ⟨pre,rest⟩ ⟨y1,y2⟩
  simp only at y1 y2
  have y3:l.length = pre.length + rest.length:=by rw [y1,List.length_append]
  rcases rest with _ | ⟨d,rest⟩
  ·simp only [List.length_nil] at y3
   simp only [typA] at y2
   rw [← y2,if_pos rfl] at hty
   have c1:¬ (pre.length:Int) < (l.length:Int):=by omega
   unfold pl526_0
   refine Uw (J5 c1 hl0 hv0 he0 hty) ?_
   simp [pf526,hty]
  ·simp only [List.length_cons] at y3
   have hd:=hs d (by rw [y1]; simp)
   simp only [XVal.sm] at hd
   simp only [typA] at y2
   have hg:l[pre.length]? = some d:=by rw [y1]; simp
   obtain ⟨hlt,he⟩:=List.getElem?_eq_some_iff.1 hg
   have c1:(pre.length:Int) < (l.length:Int):=by omega
   have hw:=Wi ((pre.length:Int) + 1)
   unfold pl526_0
   by_cases o1:valOkF d.Ty d.N d.S = true
   ·by_cases o2:d.Ty = v0.Ty
    ·rw [if_pos ⟨o1,o2⟩] at y2
     have o3:valOkF v0.Ty d.N d.S = true:=o2 ▸ o1
     refine Uw (J8 hg he hlt c1 hw hd o1 (J5 o2 o3 hl0 hv0 he0)) ?_
     exact ⟨(pre ++ [d],rest),by simp,⟨by rw [y1]; simp,y2⟩,by simp⟩
    ·rw [if_neg (fun q => o2 q.2)] at y2
     rw [← y2,if_neg (by simp)] at hty
     have o4:(d.Ty == v0.Ty) = false:=by simpa using o2
     have o5:(d.Ty != v0.Ty) = true:=by simpa using o2
     refine Uw (J8 hg he hlt c1 hw hd o1 (J6 o4 o5 hl0 hv0 he0 hty)) ?_
     simp [pf526,hty]
   ·rw [if_neg (fun q => o1 q.1)] at y2
    rw [← y2,if_neg (by simp)] at hty
    have o3:valOkF d.Ty d.N d.S = false:=by simpa using o1
    refine Uw (J8 hg he hlt c1 hw hd o3 (J4 hl0 hv0 he0 hty)) ?_
    simp [pf526,hty]
 ·have hty:typF l = 0:=by
   cases l with
   | nil => rfl
   | cons x r =>
    simp only [typF]
    rw [if_neg (fun e => q ⟨by simp,by simp; omega⟩)]
  refine Uw hty ?_
  repeat intro hc
  simp [pf526,hty]

@[simp] theorem t518 (k0:Bool) (l:List XVal) (h:l.length≤1048576) (hs:XVal.sms l):Gw TT 518 [.one (.ro k0 (.sl 3 (l.map XVal.e)))] = some (vi (typF l),[]):=by
 refine Ga pf518 pb518 ?_
 unfold pb518
 by_cases q:1≤l.length∧l.length≤64
 ·have q1:(1:Int)≤(l.length:Int):=by omega
  have q2:(l.length:Int)≤64:=by omega
  obtain ⟨v0,hv0⟩:∃ v,l[0]? = some v:=⟨_,List.getElem?_eq_getElem (by omega)⟩
  obtain ⟨hl0,he0⟩:=List.getElem?_eq_some_iff.1 hv0
  have hty:typF l = if typA v0.Ty l = true then v0.Ty else 0:=by
   cases l with
   | nil => simp at hl0
   | cons x r =>
    simp at hv0; subst hv0
    simp only [typF]
    have:r.length < 64:=by simp at q; omega
    simp [this]
  refine Uw (J5 q1 q2 hl0 hv0 he0) ?_
  refine wp_loopI (σ:=List XVal × List XVal) (fun s => [(0,AV.v k0 (D.sl 3 (l.map XVal.e)),none),(3,AV.v false (di ((s.1.length:Nat):Int)),none)]) (fun s => l = s.1 ++ s.2∧typA v0.Ty s.2 = typA v0.Ty l) (fun s => s.2.length) ([],l) (by simp) ⟨rfl,rfl⟩ ?_
  rintro ⟨pre,rest⟩ ⟨y1,y2⟩
  simp only at y1 y2
  have y3:l.length = pre.length + rest.length:=by rw [y1,List.length_append]
  rcases rest with _ | ⟨d,rest⟩
  ·simp only [List.length_nil] at y3
   simp only [typA] at y2
   rw [← y2,if_pos rfl] at hty
   have c1:¬ (pre.length:Int) < (l.length:Int):=by omega
   unfold pl518_0
   refine Uw (J5 c1 hl0 hv0 he0 hty) ?_
   simp [pf518,hty]
  ·simp only [List.length_cons] at y3
   have hd:=hs d (by rw [y1]; simp)
   simp only [XVal.sm] at hd
   simp only [typA] at y2
   have hg:l[pre.length]? = some d:=by rw [y1]; simp
   obtain ⟨hlt,he⟩:=List.getElem?_eq_some_iff.1 hg
   have c1:(pre.length:Int) < (l.length:Int):=by omega
   have hw:=Wi ((pre.length:Int) + 1)
   unfold pl518_0
   by_cases o1:valOkF d.Ty d.N d.S = true
   ·by_cases o2:d.Ty = v0.Ty
    ·rw [if_pos ⟨o1,o2⟩] at y2
     have o3:valOkF v0.Ty d.N d.S = true:=o2 ▸ o1
     refine Uw (J8 hg he hlt c1 hw hd o1 (J5 o2 o3 hl0 hv0 he0)) ?_
     exact ⟨(pre ++ [d],rest),by simp,⟨by rw [y1]; simp,y2⟩,by simp⟩
    ·rw [if_neg (fun q => o2 q.2)] at y2
     rw [← y2,if_neg (by simp)] at hty
     have o4:(d.Ty == v0.Ty) = false:=by simpa using o2
     have o5:(d.Ty != v0.Ty) = true:=by simpa using o2
     refine Uw (J8 hg he hlt c1 hw hd o1 (J6 o4 o5 hl0 hv0 he0 hty)) ?_
     simp [pf518,hty]
   ·rw [if_neg (fun q => o1 q.1)] at y2
    rw [← y2,if_neg (by simp)] at hty
    have o3:valOkF d.Ty d.N d.S = false:=by simpa using o1
    refine Uw (J8 hg he hlt c1 hw hd o3 (J4 hl0 hv0 he0 hty)) ?_
    simp [pf518,hty]
 ·have hty:typF l = 0:=by
   cases l with
   | nil => rfl
   | cons x r =>
    simp only [typF]
    rw [if_neg (fun e => q ⟨by simp,by simp; omega⟩)]
  refine Uw hty ?_
  repeat intro hc
  simp [pf518,hty]

@[simp] theorem t579 (k0:Bool) (b:List Int) (a x_N:Int) (x_S:ByteArray) (h:b.length≤1048000) (hs:x_S.size≤1048576):Gw TT 579 [.one (.ro k0 (.sl 1 (b.map eb))),.st [.ro false (di a),.ro false (di x_N),.ro false (.str x_S)]] = some (.one (.own (.sl 1 ((b ++ putV ⟨a,x_N,x_S⟩).map eb))),[]):=by
 refine Ga pf579 pb579 ?_
 unfold pb579
 have hq0:(0 + b.length) * 1≤70368744177664:=by omega
 have hq1:b.length≤70368744177664:=by omega
 have hq2:b.length≤1048576:=by omega
 cases hv:valOkF a x_N x_S with
 | false =>
  have hp:putV ⟨a,x_N,x_S⟩ = []:=by simp [putV,hv]
  refine Uw (J6 h hs hv hq0 hq1 hq2) ?_
  simp [pf579,hp]
 | true =>
  have hl:=valOkF_len hv
  by_cases u:a = 1
  ·subst u
   have hp:putV ⟨1,x_N,x_S⟩ = encN x_N:=by simp [putV,hv]
   refine Uw (J6 h hs hv hq0 hq1 hq2) ?_
   simp [pf579,hp]
  ·have hp:putV ⟨a,x_N,x_S⟩ = (x_S.size:Int) :: bsI x_S:=by simp [putV,hv,u]
   have hu:IntKind.wrap .u8 (x_S.size:Int) = (x_S.size:Int):=wrap_u8 (by omega) (by omega)
   have hr1:(b.length + 1) * 1≤70368744177664:=by omega
   have hr2:b.length + 1≤70368744177664:=by omega
   have hr3:b.length + 1 + x_S.size≤70368744177664:=by omega
   refine Uw (J8 h hs hv hq0 hq1 hq2 u (J4 hu hr1 hr2 hr3)) ?_
   repeat intro hc
   simp [pf579,hp,bsI]

@[simp] theorem t569 (k0:Bool) (b:List Int) (a x_N:Int) (x_S:ByteArray) (h:b.length≤1048000) (hs:x_S.size≤1048576):Gw TT 569 [.one (.ro k0 (.sl 1 (b.map eb))),.st [.ro false (di a),.ro false (di x_N),.ro false (.str x_S)]] = some (.one (.own (.sl 1 ((b ++ putV ⟨a,x_N,x_S⟩).map eb))),[]):=by
 refine Ga pf569 pb569 ?_
 unfold pb569
 have hq0:(0 + b.length) * 1≤70368744177664:=by omega
 have hq1:b.length≤70368744177664:=by omega
 have hq2:b.length≤1048576:=by omega
 cases hv:valOkF a x_N x_S with
 | false =>
  have hp:putV ⟨a,x_N,x_S⟩ = []:=by simp [putV,hv]
  refine Uw (J6 h hs hv hq0 hq1 hq2) ?_
  simp [pf569,hp]
 | true =>
  have hl:=valOkF_len hv
  by_cases u:a = 1
  ·subst u
   have hp:putV ⟨1,x_N,x_S⟩ = encN x_N:=by simp [putV,hv]
   refine Uw (J6 h hs hv hq0 hq1 hq2) ?_
   simp [pf569,hp]
  ·have hp:putV ⟨a,x_N,x_S⟩ = (x_S.size:Int) :: bsI x_S:=by simp [putV,hv,u]
   have hu:IntKind.wrap .u8 (x_S.size:Int) = (x_S.size:Int):=wrap_u8 (by omega) (by omega)
   have hr1:(b.length + 1) * 1≤70368744177664:=by omega
   have hr2:b.length + 1≤70368744177664:=by omega
   have hr3:b.length + 1 + x_S.size≤70368744177664:=by omega
   refine Uw (J8 h hs hv hq0 hq1 hq2 u (J4 hu hr1 hr2 hr3)) ?_
   repeat intro hc
   simp [pf569,hp,bsI]

def gvV (r:Option (XVal × Int)):V:=match r with
 | some (v,t) => .tup [.st [.ro false (di v.Ty),.ro false (di v.N),.ro false (.str v.S)],vi t,vb true]
 | none => .tup [.st [.ro false (di 0),.ro false (di 0),.ro false (.str ⟨#[]⟩)],vi 0,vb false]
@[simp] theorem gvV_some (v:XVal) (t:Int):gvV (some (v,t)) = .tup [.st [.ro false (di v.Ty),.ro false (di v.N),.ro false (.str v.S)],vi t,vb true]:=rfl
@[simp] theorem gvV_none:gvV none = .tup [.st [.ro false (di 0),.ro false (di 0),.ro false (.str ⟨#[]⟩)],vi 0,vb false]:=rfl

@[simp] theorem t551 (k0:Bool) (b:List Int) (u ty:Int) (h:b.length≤1048576) (hb:bytesOk b):Gw TT 551 [.one (.ro k0 (.sl 1 (b.map eb))),vi u,vi ty] = some (gvV (getV b u ty),[]):=by
 refine Ga pf551 pb551 ?_
 unfold pb551
 have hz:(⟨#[]⟩:ByteArray).size≤1048576:=by decide
 by_cases q1:ty = 1
 ·subst q1
  cases hg:gN b u with
  | none =>
   have hr:getV b u 1 = none:=by simp [getV,hg]
   refine Ud (J4 h hb hg hr) ?_
   simp [pf551,hr]
  | some q =>
   obtain ⟨n,t⟩:=q
   have hr:getV b u 1 = some (⟨1,n,⟨#[]⟩⟩,t):=by simp [getV,hg]
   obtain ⟨c1,c2,c3,_⟩:=gN_can hb hg
   have hv:=valOkF_int c1
   have ht:¬ t = 0:=by omega
   refine Ud (J7 h hb hg hr hz hv ht) ?_
   repeat intro hc
   simp [pf551,hr]
 ·by_cases q2:ty = 2
  ·subst q2
   by_cases q3:0≤u∧u < (b.length:Int)
   ·obtain ⟨m,rfl⟩:=Int.eq_ofNat_of_zero_le q3.1
    have hm:m < b.length:=by omega
    obtain ⟨c,hc⟩:∃ c,b[m]? = some c:=⟨_,List.getElem?_eq_getElem hm⟩
    have hce:b[m] = c:=(List.getElem?_eq_some_iff.1 hc).2
    have hc0:=hb c (List.mem_of_getElem? hc)
    obtain ⟨kn,rfl⟩:=Int.eq_ofNat_of_zero_le hc0.1
    have w1:=Wi ((m:Int) + 1)
    have w2:IntKind.wrap .i64 (kn:Int) = (kn:Int):=wrap_i64 (by omega) (by omega)
    have w3:=Wi ((m:Int) + 1 + (kn:Int))
    have w4:=Wi ((b.length:Int) - (m:Int))
    have w5:=Wi ((b.length:Int) - (m:Int) - 1)
    have w6:=Wi ((b.length:Int) - 1)
    have p1:(m:Int) < (b.length:Int):=by omega
    have p2:(m:Int)≤(b.length:Int) - 1:=by omega
    have p3:(0:Int)≤(m:Int) + 1:=by omega
    have p4:(0:Int)≤(m:Int) + 1 + (kn:Int):=by omega
    have p5:((m:Int) + 1).toNat = m + 1:=by omega
    have p6:((m:Int) + 1 + (kn:Int)).toNat = m + 1 + kn:=by omega
    have p7:m + 1≤m + 1 + kn:=by omega
    have p13:(m:Int) + 1≤(m:Int) + 1 + (kn:Int):=by omega
    by_cases q4:m + 1 + kn≤b.length
    ·obtain ⟨S,hS⟩:∃ S,S = strOf ((b.take (m + 1 + kn)).drop (m + 1)):=⟨_,rfl⟩
     obtain ⟨L,hL⟩:∃ L,L = ((b.take (m + 1 + kn)).drop (m + 1)).map (fun n => UInt8.ofNat n.toNat):=⟨_,rfl⟩
     have hbs:bytesStr (List.drop (m + 1) (List.take (m + 1 + kn) (List.map eb b))) = some L:=by rw [hL,← bytesStr_map,List.map_drop,List.map_take]
     have hLS:(⟨L.toArray⟩:ByteArray) = S:=by rw [hL,hS]; try rfl
     have hsz:S.size≤1048576:=by
      rw [← bsI_len,hS,bsI_strOf (bytesOk_drop _ (bytesOk_take _ hb))]
      simp only [List.length_drop,List.length_take]; omega
     have p8:¬ (b.length:Int) < (m:Int) + 1 + (kn:Int):=by omega
     have p9:¬ (b.length:Int) - (m:Int) - 1 < (kn:Int):=by omega
     have p10:(m:Int) + 1 + (kn:Int)≤(b.length:Int):=by omega
     have p11:(m:Int) + 1≤(b.length:Int):=by omega
     have p12:¬ (m:Int) + 1 + (kn:Int) = 0:=by omega
     cases hv:valOkF 2 0 S with
     | true =>
      have hr:getV b (m:Int) 2 = some (⟨2,0,S⟩,(m:Int) + 1 + (kn:Int)):=by
       unfold getV
       rw [if_neg (by omega),if_pos ⟨rfl,by omega⟩]
       simp only [Int.toNat_natCast,hc]
       rw [if_pos p10,p5,p6,← hS,if_pos hv]
      refine Ud (J8 h hc hce hm w1 w2 w3 (J8 w4 w5 w6 p1 p2 p3 p4 (J8 p5 p6 p7 p13 p8 p9 p10 (J8 p11 p12 q4 hbs hLS hsz hv hr)))) ?_
      repeat intro hc
      simp [pf551,hr]
     | false =>
      have hr:getV b (m:Int) 2 = none:=by
       unfold getV
       rw [if_neg (by omega),if_pos ⟨rfl,by omega⟩]
       simp only [Int.toNat_natCast,hc]
       rw [if_pos p10,p5,p6,← hS,if_neg (by rw [hv]; simp)]
      refine Ud (J8 h hc hce hm w1 w2 w3 (J8 w4 w5 w6 p1 p2 p3 p4 (J8 p5 p6 p7 p13 p8 p9 p10 (J8 p11 p12 q4 hbs hLS hsz hv hr)))) ?_
      simp [pf551,hr]
    ·have p8:(b.length:Int) < (m:Int) + 1 + (kn:Int):=by omega
     have p9:(b.length:Int) - (m:Int) - 1 < (kn:Int):=by omega
     have hr:getV b (m:Int) 2 = none:=by
      unfold getV
      rw [if_neg (by omega),if_pos ⟨rfl,by omega⟩]
      simp only [Int.toNat_natCast,hc]
      rw [if_neg (by omega)]
     refine Ud (J8 h hc hce hm w1 w2 w3 (J8 w4 w5 w6 p1 p2 p3 p4 (J6 p5 p6 p7 p8 p9 hr))) ?_
     simp [pf551,hr]
   ·have hr:getV b u 2 = none:=by
     unfold getV
     rw [if_neg (by omega)]
     split
     ·rename_i hh
      rw [List.getElem?_eq_none (by omega)]
     ·rfl
    have w6:=Wi ((b.length:Int) - 1)
    have hv0:valOkF 2 0 ⟨#[]⟩ = true:=by simp [valOkF,textB,ba_data]; decide
    refine Ud (J4 hr hz w6 hv0) ?_ ?_
    all_goals repeat intro hc
    all_goals simp [pf551,hr]
  ·have hr:getV b u ty = none:=by simp [getV,q1,q2]
   have hv0:valOkF ty 0 ⟨#[]⟩ = false:=by simp [valOkF,q1,q2]
   refine Ud (J5 hr hz q1 q2 hv0) ?_
   repeat intro hc
   simp [pf551,hr]

@[simp] theorem t538 (k0:Bool) (b:List Int) (u ty:Int) (h:b.length≤1048576) (hb:bytesOk b):Gw TT 538 [.one (.ro k0 (.sl 1 (b.map eb))),vi u,vi ty] = some (gvV (getV b u ty),[]):=by
 refine Ga pf538 pb538 ?_
 unfold pb538
 have hz:(⟨#[]⟩:ByteArray).size≤1048576:=by decide
 by_cases q1:ty = 1
 ·subst q1
  cases hg:gN b u with
  | none =>
   have hr:getV b u 1 = none:=by simp [getV,hg]
   refine Uw (J4 h hb hg hr) ?_
   simp [pf538,hr]
  | some q =>
   obtain ⟨n,t⟩:=q
   have hr:getV b u 1 = some (⟨1,n,⟨#[]⟩⟩,t):=by simp [getV,hg]
   obtain ⟨c1,c2,c3,_⟩:=gN_can hb hg
   have hv:=valOkF_int c1
   have ht:¬ t = 0:=by omega
   refine Uw (J7 h hb hg hr hz hv ht) ?_
   simp [pf538,hr]
 ·by_cases q2:ty = 2
  ·subst q2
   by_cases q3:0≤u∧u < (b.length:Int)
   ·obtain ⟨m,rfl⟩:=Int.eq_ofNat_of_zero_le q3.1
    have hm:m < b.length:=by omega
    obtain ⟨c,hc⟩:∃ c,b[m]? = some c:=⟨_,List.getElem?_eq_getElem hm⟩
    have hce:b[m] = c:=(List.getElem?_eq_some_iff.1 hc).2
    have hc0:=hb c (List.mem_of_getElem? hc)
    obtain ⟨kn,rfl⟩:=Int.eq_ofNat_of_zero_le hc0.1
    have w1:=Wi ((m:Int) + 1)
    have w2:IntKind.wrap .i64 (kn:Int) = (kn:Int):=wrap_i64 (by omega) (by omega)
    have w3:=Wi ((m:Int) + 1 + (kn:Int))
    have w4:=Wi ((b.length:Int) - (m:Int))
    have w5:=Wi ((b.length:Int) - (m:Int) - 1)
    have w6:=Wi ((b.length:Int) - 1)
    have p1:(m:Int) < (b.length:Int):=by omega
    have p2:(m:Int)≤(b.length:Int) - 1:=by omega
    have p3:(0:Int)≤(m:Int) + 1:=by omega
    have p4:(0:Int)≤(m:Int) + 1 + (kn:Int):=by omega
    have p5:((m:Int) + 1).toNat = m + 1:=by omega
    have p6:((m:Int) + 1 + (kn:Int)).toNat = m + 1 + kn:=by omega
    have p7:m + 1≤m + 1 + kn:=by omega
    have p13:(m:Int) + 1≤(m:Int) + 1 + (kn:Int):=by omega
    by_cases q4:m + 1 + kn≤b.length
    ·obtain ⟨S,hS⟩:∃ S,S = strOf ((b.take (m + 1 + kn)).drop (m + 1)):=⟨_,rfl⟩
     obtain ⟨L,hL⟩:∃ L,L = ((b.take (m + 1 + kn)).drop (m + 1)).map (fun n => UInt8.ofNat n.toNat):=⟨_,rfl⟩
     have hbs:bytesStr (List.drop (m + 1) (List.take (m + 1 + kn) (List.map eb b))) = some L:=by rw [hL,← bytesStr_map,List.map_drop,List.map_take]
     have hLS:(⟨L.toArray⟩:ByteArray) = S:=by rw [hL,hS]; try rfl
     have hsz:S.size≤1048576:=by
      rw [← bsI_len,hS,bsI_strOf (bytesOk_drop _ (bytesOk_take _ hb))]
      simp only [List.length_drop,List.length_take]; omega
     have p8:¬ (b.length:Int) < (m:Int) + 1 + (kn:Int):=by omega
     have p9:¬ (b.length:Int) - (m:Int) - 1 < (kn:Int):=by omega
     have p10:(m:Int) + 1 + (kn:Int)≤(b.length:Int):=by omega
     have p11:(m:Int) + 1≤(b.length:Int):=by omega
     have p12:¬ (m:Int) + 1 + (kn:Int) = 0:=by omega
     cases hv:valOkF 2 0 S with
     | true =>
      have hr:getV b (m:Int) 2 = some (⟨2,0,S⟩,(m:Int) + 1 + (kn:Int)):=by
       unfold getV
       rw [if_neg (by omega),if_pos ⟨rfl,by omega⟩]
       simp only [Int.toNat_natCast,hc]
       rw [if_pos p10,p5,p6,← hS,if_pos hv]
      refine Uw (J8 h hc hce hm w1 w2 w3 (J8 w4 w5 w6 p1 p2 p3 p4 (J8 p5 p6 p7 p13 p8 p9 p10 (J8 p11 p12 q4 hbs hLS hsz hv hr)))) ?_
      simp [pf538,hr]
     | false =>
      have hr:getV b (m:Int) 2 = none:=by
       unfold getV
       rw [if_neg (by omega),if_pos ⟨rfl,by omega⟩]
       simp only [Int.toNat_natCast,hc]
       rw [if_pos p10,p5,p6,← hS,if_neg (by rw [hv]; simp)]
      refine Uw (J8 h hc hce hm w1 w2 w3 (J8 w4 w5 w6 p1 p2 p3 p4 (J8 p5 p6 p7 p13 p8 p9 p10 (J8 p11 p12 q4 hbs hLS hsz hv hr)))) ?_
      simp [pf538,hr]
    ·have p8:(b.length:Int) < (m:Int) + 1 + (kn:Int):=by omega
     have p9:(b.length:Int) - (m:Int) - 1 < (kn:Int):=by omega
     have hr:getV b (m:Int) 2 = none:=by
      unfold getV
      rw [if_neg (by omega),if_pos ⟨rfl,by omega⟩]
      simp only [Int.toNat_natCast,hc]
      rw [if_neg (by omega)]
     refine Uw (J8 h hc hce hm w1 w2 w3 (J8 w4 w5 w6 p1 p2 p3 p4 (J6 p5 p6 p7 p8 p9 hr))) ?_
     simp [pf538,hr]
   ·have hr:getV b u 2 = none:=by
     unfold getV
     rw [if_neg (by omega)]
     split
     ·rename_i hh
      rw [List.getElem?_eq_none (by omega)]
     ·rfl
    have w6:=Wi ((b.length:Int) - 1)
    have hv0:valOkF 2 0 ⟨#[]⟩ = true:=by simp [valOkF,textB,ba_data]; decide
    refine Uw (J4 hr hz w6 hv0) ?_
    repeat intro hc
    simp [pf538,hr]
  ·have hr:getV b u ty = none:=by simp [getV,q1,q2]
   have hv0:valOkF ty 0 ⟨#[]⟩ = false:=by simp [valOkF,q1,q2]
   refine Uw (J5 hr hz q1 q2 hv0) ?_
   repeat intro hc
   simp [pf538,hr]

@[simp] theorem t550 (k0:Bool) (l:List XVal) (h:l.length≤1048576) (hs:XVal.sms l):Gw TT 550 [.one (.ro k0 (.sl 3 (l.map XVal.e)))] = some (.one (.own (.sl 1 ((encP l).map eb))),[]):=by
 refine Ga pf550 pb550 ?_
 unfold pb550
 by_cases q:typF l = 0
 ·have he:encP l = []:=by simp [encP,q]
  refine Uw (J4 h hs q he) ?_
  simp [pf550,he]
 ·have he:encP l = encVs l:=by simp [encP,q]
  obtain ⟨q1,q2,_,_⟩:=typF_ne q
  refine Uw (J4 h hs q he) ?_
  repeat intro hc
  refine wp_loopI (σ:=List XVal × List XVal × List Int) (fun s => [(3,AV.pl 3 0 [],some (Rt.vir [C.own (D.sl 1 ((s.2.2).map eb))])),(11,AV.v k0 (D.sl 3 (l.map XVal.e)),none),(12,AV.v false (di (l.length:Nat)),none),(13,AV.v false (di ((s.1.length:Nat):Int)),none)]) (fun s => l = s.1 ++ s.2.1∧s.2.2 ++ encVs s.2.1 = encVs l∧s.2.2.length≤7 * s.1.length) (fun s => s.2.1.length) ([],l,[]) (by simp) ⟨rfl,rfl,by simp⟩ ?_
  rintro ⟨pre,rest,a⟩ ⟨y1,y2,y4⟩
  simp only at y1 y2 y4
  have y3:l.length = pre.length + rest.length:=by rw [y1,List.length_append]
  rcases rest with _ | ⟨⟨dT,dN,dS⟩,rest⟩
  ·simp only [List.length_nil] at y3
   simp only [encVs,List.flatMap_nil,List.append_nil] at y2
   have c1:¬ (pre.length:Int) < (l.length:Int):=by omega
   unfold pl550_0
   refine Uw c1 ?_
   simp [pf550,he,encVs,y2]
  ·simp only [List.length_cons] at y3
   have hd:=hs ⟨dT,dN,dS⟩ (by rw [y1]; simp)
   simp only [XVal.sm] at hd
   have hg:l[pre.length]? = some ⟨dT,dN,dS⟩:=by rw [y1]; simp
   obtain ⟨hlt,hge⟩:=List.getElem?_eq_some_iff.1 hg
   have c1:(pre.length:Int) < (l.length:Int):=by omega
   have hw:=Wi ((pre.length:Int) + 1)
   have ha:a.length≤1048000:=by omega
   have hp:=putV_len ⟨dT,dN,dS⟩
   unfold pl550_0
   refine Uw (J7 hg hge hlt c1 hw hd ha) ?_
   exact ⟨(pre ++ [⟨dT,dN,dS⟩],rest,a ++ putV ⟨dT,dN,dS⟩),by simp,⟨by rw [y1]; simp,by rw [← y2]; simp [encVs],by simp only [List.length_append,List.length_cons,List.length_nil]; omega⟩,by simp⟩

@[simp] theorem t578 (k0:Bool) (l:List XVal) (h:l.length≤1048576) (hs:XVal.sms l):Gw TT 578 [.one (.ro k0 (.sl 3 (l.map XVal.e)))] = some (.one (.own (.sl 1 ((encP l).map eb))),[]):=by
 refine Ga pf578 pb578 ?_
 unfold pb578
 by_cases q:typF l = 0
 ·have he:encP l = []:=by simp [encP,q]
  refine Uw (J4 h hs q he) ?_
  simp [pf578,he]
 ·have he:encP l = encVs l:=by simp [encP,q]
  obtain ⟨q1,q2,_,_⟩:=typF_ne q
  refine Uw (J4 h hs q he) ?_
  repeat intro hc
  refine wp_loopI (σ:=List XVal × List XVal × List Int) (fun s => [(0,AV.v k0 (D.sl 3 (l.map XVal.e)),none),(3,AV.pl 3 0 [],some (Rt.vir [C.own (D.sl 1 ((s.2.2).map eb))])),(4,AV.v false (di ((s.1.length:Nat):Int)),none)]) (fun s => l = s.1 ++ s.2.1∧s.2.2 ++ encVs s.2.1 = encVs l∧s.2.2.length≤7 * s.1.length) (fun s => s.2.1.length) ([],l,[]) (by simp) ⟨rfl,rfl,by simp⟩ ?_
  rintro ⟨pre,rest,a⟩ ⟨y1,y2,y4⟩
  simp only at y1 y2 y4
  have y3:l.length = pre.length + rest.length:=by rw [y1,List.length_append]
  rcases rest with _ | ⟨⟨dT,dN,dS⟩,rest⟩
  ·simp only [List.length_nil] at y3
   simp only [encVs,List.flatMap_nil,List.append_nil] at y2
   have c1:¬ (pre.length:Int) < (l.length:Int):=by omega
   unfold pl578_0
   refine Uw c1 ?_
   simp [pf578,he,encVs,y2]
  ·simp only [List.length_cons] at y3
   have hd:=hs ⟨dT,dN,dS⟩ (by rw [y1]; simp)
   simp only [XVal.sm] at hd
   have hg:l[pre.length]? = some ⟨dT,dN,dS⟩:=by rw [y1]; simp
   obtain ⟨hlt,hge⟩:=List.getElem?_eq_some_iff.1 hg
   have c1:(pre.length:Int) < (l.length:Int):=by omega
   have hw:=Wi ((pre.length:Int) + 1)
   have ha:a.length≤1048000:=by omega
   have hp:=putV_len ⟨dT,dN,dS⟩
   unfold pl578_0
   refine Uw (J7 hg hge hlt c1 hw hd ha) ?_
   exact ⟨(pre ++ [⟨dT,dN,dS⟩],rest,a ++ putV ⟨dT,dN,dS⟩),by simp,⟨by rw [y1]; simp,by rw [← y2]; simp [encVs],by simp only [List.length_append,List.length_cons,List.length_nil]; omega⟩,by simp⟩

def gvsV (r:Option (List XVal × Int)):V:=match r with
 | some (l,t) => .tup [.one (.own (.sl 3 (l.map XVal.e))),vi t,vb true]
 | none => .tup [.one (.own (.sl 3 [])),vi 0,vb false]
@[simp] theorem gvsV_some (l:List XVal) (t:Int):gvsV (some (l,t)) = .tup [.one (.own (.sl 3 (l.map XVal.e))),vi t,vb true]:=rfl
@[simp] theorem gvsV_none:gvsV none = .tup [.one (.own (.sl 3 [])),vi 0,vb false]:=rfl

def odV (r:Option (List XVal)):V:=match r with
 | some l => .tup [.one (.own (.sl 3 (l.map XVal.e))),vb true]
 | none => .tup [.one (.own (.sl 3 [])),vb false]
@[simp] theorem odV_some (l:List XVal):odV (some l) = .tup [.one (.own (.sl 3 (l.map XVal.e))),vb true]:=rfl
@[simp] theorem odV_none:odV none = .tup [.one (.own (.sl 3 [])),vb false]:=rfl

@[simp] theorem t549 (k0:Bool) (b:List Int) (u0 ty k:Int) (h:b.length≤1048576) (hb:bytesOk b) (hk0:0≤k) (hk:k≤64):Gw TT 549 [.one (.ro k0 (.sl 1 (b.map eb))),vi u0,vi ty,vi k] = some (gvsV (getVs b ty k.toNat u0),[]):=by
 refine Ga pf549 pb549 ?_
 unfold pb549
 obtain ⟨kn,rfl⟩:=Int.eq_ofNat_of_zero_le hk0
 have hkn:((kn:Int)).toNat = kn:=by omega
 rw [hkn]
 refine Ua Oo ?_
 refine wp_loopI (σ:=List XVal × (Nat × Int)) (fun s => [(0,AV.v k0 (D.sl 1 (b.map eb)),none),(1,AV.v false (di s.2.2),none),(2,AV.v false (di ty),none),(3,AV.v false (di (kn:Nat)),none),(11,AV.pl 11 0 [],some (Rt.vir [C.own (D.sl 3 ((s.1).map XVal.e))])),(12,AV.v false (di (s.1.length:Nat)),none)]) (fun s => s.1.length + s.2.1 = kn∧getVs b ty kn u0 = preL s.1 (getVs b ty s.2.1 s.2.2)) (fun s => s.2.1) ([],(kn,u0)) (by simp) ⟨by simp,by rw [preL_nil]⟩ ?_
 rintro ⟨a,⟨i,v⟩⟩ ⟨y1,y2⟩
 simp only at y1 y2
 have hq:(a.length + 1) * 32≤70368744177664:=by omega
 cases i with
 | zero =>
  have c1:¬ (a.length:Int) < (kn:Int):=by omega
  simp only [getVs,preL_some,List.append_nil] at y2
  unfold pl549_0
  refine Ua (J2 c1 y2) ?_
  simp [pf549,y2]
 | succ i =>
  have c1:(a.length:Int) < (kn:Int):=by omega
  have hw:=Wi ((a.length:Int) + 1)
  cases hv:getV b v ty with
  | none =>
   rw [getVs_none hv] at y2
   unfold pl549_0
   refine Ua (J6 c1 hw h hb hv y2) ?_
   simp [pf549,y2]
  | some q =>
   obtain ⟨⟨dT,dN,dS⟩,t⟩:=q
   rw [getVs_some hv] at y2
   unfold pl549_0
   refine Ua (J6 c1 hw h hb hv hq) ?_
   exact ⟨(a ++ [⟨dT,dN,dS⟩],(i,t)),by simp,⟨by simp; omega,y2⟩,by simp⟩

@[simp] theorem t514 (k0:Bool) (b:List Int) (ty k:Int) (h:b.length≤1048576) (hb:bytesOk b):Gw TT 514 [.one (.ro k0 (.sl 1 (b.map eb))),vi ty,vi k] = some (odV (decP b ty k),[]):=by
 refine Ga pf514 pb514 ?_
 unfold pb514
 by_cases q:1≤k∧k≤64
 ·obtain ⟨kn,rfl⟩:=Int.eq_ofNat_of_zero_le (show 0≤k by omega)
  have q1:(1:Int)≤(kn:Int):=q.1
  have q2:(kn:Int)≤64:=q.2
  have hdp:decP b ty (kn:Int) = match getVs b ty kn 0 with
    | some (l,t) => if t = (b.length:Int) then some l else none
    | none => none:=by unfold decP; rw [if_pos q,show ((kn:Int)).toNat = kn by omega]; try rfl
  obtain ⟨u0,hu0⟩:∃ u0:Int,u0 = 0:=⟨_,rfl⟩
  rw [← hu0] at hdp
  refine Uw (J2 q1 q2) ?_
  refine wp_loopI (σ:=List XVal × (Nat × Int)) (fun s => [(0,AV.v k0 (D.sl 1 (b.map eb)),none),(1,AV.v false (di ty),none),(2,AV.v false (di (kn:Nat)),none),(8,AV.pl 8 0 [],some (Rt.vir [C.own (D.sl 3 ((s.1).map XVal.e))])),(9,AV.v false (di s.2.2),none),(10,AV.v false (di (s.1.length:Nat)),none)]) (fun s => s.1.length + s.2.1 = kn∧getVs b ty kn u0 = preL s.1 (getVs b ty s.2.1 s.2.2)) (fun s => s.2.1) ([],(kn,u0)) (by simp [hu0]) ⟨by simp,by rw [preL_nil]⟩ ?_
  rintro ⟨a,⟨i,v⟩⟩ ⟨y1,y2⟩
  simp only at y1 y2
  have hq:(a.length + 1) * 32≤70368744177664:=by omega
  cases i with
  | zero =>
   have c1:¬ (a.length:Int) < (kn:Int):=by omega
   simp only [getVs,preL_some,List.append_nil] at y2
   rw [y2] at hdp
   simp only at hdp
   unfold pl514_0
   by_cases e1:v = (b.length:Int)
   ·rw [if_pos e1] at hdp
    refine Uw (J3 c1 e1 hdp) ?_
    simp [pf514,hdp]
   ·rw [if_neg e1] at hdp
    refine Uw (J3 c1 e1 hdp) ?_
    repeat intro hc
    simp [pf514,hdp]
  | succ i =>
   have c1:(a.length:Int) < (kn:Int):=by omega
   have hw:=Wi ((a.length:Int) + 1)
   cases hv:getV b v ty with
   | none =>
    rw [getVs_none hv] at y2
    rw [y2] at hdp
    simp only at hdp
    unfold pl514_0
    refine Uw (J6 c1 hw h hb hv hdp) ?_
    simp [pf514,hdp]
   | some q =>
    obtain ⟨⟨dT,dN,dS⟩,t⟩:=q
    rw [getVs_some hv] at y2
    unfold pl514_0
    refine Uw (J6 c1 hw h hb hv hq) ?_
    exact ⟨(a ++ [⟨dT,dN,dS⟩],(i,t)),by simp,⟨by simp; omega,y2⟩,by simp⟩
 ·have hdp:decP b ty k = none:=by unfold decP; rw [if_neg q]
  refine Uw hdp ?_
  repeat intro hc
  simp [pf514,hdp]

theorem set_last {α:Type} (f:α→List D) (o:List α) (a b:List D):(List.map f o ++ [a]).set o.length b = List.map f o ++ [b]:=by
 have:o.length = (List.map f o).length:=by simp
 rw [this,List.set_append_right _ _ (Nat.le_refl _)]; simp

theorem get_last {α:Type} (f:α→List D) (o:List α) (a:List D):(List.map f o ++ [a])[o.length]? = some a:=by
 rw [List.getElem?_append_right (by simp)]; simp

theorem get_last' {α:Type} (f:α→List D) (o:List α) (a:List D) (h:o.length < (List.map f o ++ [a]).length):(List.map f o ++ [a])[o.length] = a:=by
 have:=get_last f o a
 rw [List.getElem?_eq_getElem h] at this
 simpa using this

theorem runAdd_eq (o:List XRun) (v:XVal) (c:Int):runAdd (o ++ [⟨v,c⟩]) v = o ++ [⟨v,c + 1⟩]:=by
 have:valEq v v = true:=valEq_iff.2 rfl
 simp [runAdd,this]

theorem runAdd_ne (o:List XRun) (x v:XVal) (c:Int) (h:valEq x v = false):runAdd (o ++ [⟨x,c⟩]) v = o ++ [⟨x,c⟩] ++ [⟨v,1⟩]:=by
 simp [runAdd,h]

@[simp] theorem t580 (k0:Bool) (l:List XVal) (h:l.length≤1048576):Gw TT 580 [.one (.ro k0 (.sl 3 (l.map XVal.e)))] = some (.one (.own (.sl 4 ((runsF l).map XRun.e))),[]):=by
 refine Ga pf580 pb580 ?_
 unfold pb580
 refine Ud Oo ?_
 refine wp_loopI (σ:=List XVal × List XVal × List XRun) (fun s => [(0,AV.v k0 (D.sl 3 (l.map XVal.e)),none),(3,AV.pl 3 0 [],some (Rt.vir [C.own (D.sl 4 (s.2.2.map XRun.e))])),(7,AV.v k0 (D.sl 3 (l.map XVal.e)),none),(8,AV.v false (di (l.length:Nat)),none),(9,AV.v false (di ((s.1.length:Nat):Int)),none)]) (fun s => l = s.1 ++ s.2.1∧runsF l = runsG s.2.2 s.2.1∧s.2.2.length≤s.1.length∧((s.1 = []∧s.2.2 = []) ∨ ∃ p x o c,s.1 = p ++ [x]∧s.2.2 = o ++ [⟨x,c⟩]∧1≤c∧c≤(s.1.length:Int))) (fun s => s.2.1.length) ([],l,[]) (by simp) ⟨rfl,rfl,by simp,.inl ⟨rfl,rfl⟩⟩ ?_
 rintro ⟨pre,rest,o⟩ ⟨y1,y2,y4,y5⟩
 simp only at y1 y2 y4 y5
 have y3:l.length = pre.length + rest.length:=by rw [y1,List.length_append]
 rcases rest with _ | ⟨⟨dT,dN,dS⟩,rest⟩
 ·simp only [List.length_nil] at y3
  simp only [runsG] at y2
  have c1:¬ (pre.length:Int) < (l.length:Int):=by omega
  unfold pl580_0
  refine Ud c1 ?_
  repeat intro hc
  simp [pf580,y2]
 ·simp only [List.length_cons] at y3
  simp only [runsG] at y2
  have hg:l[pre.length]? = some ⟨dT,dN,dS⟩:=by rw [y1]; simp
  obtain ⟨hlt,hge⟩:=List.getElem?_eq_some_iff.1 hg
  have c1:(pre.length:Int) < (l.length:Int):=by omega
  have hw:=Wi ((pre.length:Int) + 1)
  have hq:(o.length + 1) * 40≤70368744177664:=by omega
  rcases y5 with ⟨rfl,rfl⟩ | ⟨p,⟨xT,xN,xS⟩,o,c,rfl,rfl,h1,h2⟩
  ·simp only [List.length_nil,Nat.zero_add] at y3 hg hge hlt c1 hw hq
   unfold pl580_0
   refine Ud (J6 hg hge hlt c1 hw hq) ?_
   repeat intro hc
   exact ⟨([⟨dT,dN,dS⟩],rest,[⟨⟨dT,dN,dS⟩,1⟩]),by simp,⟨by rw [y1]; simp,by rw [y2]; rfl,by simp,.inr ⟨[],⟨dT,dN,dS⟩,[],1,rfl,rfl,by omega,by simp⟩⟩,by simp⟩
  ·simp only [List.length_append,List.length_cons,List.length_nil,Nat.zero_add] at y3 y4 hg hge hlt c1 hw hq h2
   have hg1:l[p.length]? = some ⟨xT,xN,xS⟩:=by rw [y1]; simp
   obtain ⟨hlt1,hge1⟩:=List.getElem?_eq_some_iff.1 hg1
   have hm1:IntKind.wrap .i64 (p.length:Int) = (p.length:Int):=wrap_i64 (by omega) (by omega)
   have hm2:IntKind.wrap .i64 (o.length:Int) = (o.length:Int):=wrap_i64 (by omega) (by omega)
   have hm3:=Wi (c + 1)
   have hcp:(0:Int) < (p.length:Int) + 1:=by omega
   have hco:(0:Int) < (o.length:Int) + 1:=by omega
   have hq2:(o.length + 1 + 1) * 40≤70368744177664:=by omega
   have hpl:(p.length:Int) < (l.length:Int):=by omega
   push_cast at *
   unfold pl580_0
   by_cases hv:valEq ⟨xT,xN,xS⟩ ⟨dT,dN,dS⟩ = true
   ·have e:=valEq_iff.1 hv
    simp only [XVal.mk.injEq] at e
    obtain ⟨rfl,rfl,rfl⟩:=e
    rw [runAdd_eq] at y2
    refine Ud (J8 hg hge hlt c1 hw hq hg1 (J8 hge1 hlt1 hm1 hm2 hm3 hcp hco (J5 hpl @set_last @get_last @get_last' @Int.add_sub_cancel))) ?_
    repeat intro hc
    exact ⟨(p ++ [⟨xT,xN,xS⟩] ++ [⟨xT,xN,xS⟩],rest,o ++ [⟨⟨xT,xN,xS⟩,c + 1⟩]),(by simp; try omega),⟨by rw [y1]; simp,y2,by simp; omega,.inr ⟨p ++ [⟨xT,xN,xS⟩],⟨xT,xN,xS⟩,o,c + 1,rfl,rfl,by omega,by simp; omega⟩⟩,by simp⟩
   ·rw [runAdd_ne _ _ _ _ (by simpa using hv)] at y2
    have hb:(xT == dT && (xN == dN && xS.toList == dS.toList)) = false:=by simpa [valEq] using hv
    refine Ud (J8 hg hge hlt c1 hw hq hq2 (J8 hg1 hge1 hlt1 hm1 hm2 hm3 hcp (J7 hco hpl @set_last @get_last @get_last' @Int.add_sub_cancel hb))) ?_
    repeat intro hc
    exact ⟨(p ++ [⟨xT,xN,xS⟩] ++ [⟨dT,dN,dS⟩],rest,o ++ [⟨⟨xT,xN,xS⟩,c⟩] ++ [⟨⟨dT,dN,dS⟩,1⟩]),(by simp; try omega),⟨by rw [y1]; simp,y2,by simp; omega,.inr ⟨p ++ [⟨xT,xN,xS⟩],⟨dT,dN,dS⟩,o ++ [⟨⟨xT,xN,xS⟩,c⟩],1,rfl,rfl,by omega,by simp; omega⟩⟩,by simp⟩

@[simp] theorem t568 (k0:Bool) (l:List XVal) (h:l.length≤1048576):Gw TT 568 [.one (.ro k0 (.sl 3 (l.map XVal.e)))] = some (.one (.own (.sl 4 ((runsF l).map XRun.e))),[]):=by
 refine Ga pf568 pb568 ?_
 unfold pb568
 refine Ud Oo ?_
 refine wp_loopI (σ:=List XVal × List XVal × List XRun) (fun s => [(0,AV.v k0 (D.sl 3 (l.map XVal.e)),none),(3,AV.pl 3 0 [],some (Rt.vir [C.own (D.sl 4 (s.2.2.map XRun.e))])),(4,AV.v false (di ((s.1.length:Nat):Int)),none)]) (fun s => l = s.1 ++ s.2.1∧runsF l = runsG s.2.2 s.2.1∧s.2.2.length≤s.1.length∧((s.1 = []∧s.2.2 = []) ∨ ∃ p x o c,s.1 = p ++ [x]∧s.2.2 = o ++ [⟨x,c⟩]∧1≤c∧c≤(s.1.length:Int))) (fun s => s.2.1.length) ([],l,[]) (by simp) ⟨rfl,rfl,by simp,.inl ⟨rfl,rfl⟩⟩ ?_
 rintro ⟨pre,rest,o⟩ ⟨y1,y2,y4,y5⟩
 simp only at y1 y2 y4 y5
 have y3:l.length = pre.length + rest.length:=by rw [y1,List.length_append]
 rcases rest with _ | ⟨⟨dT,dN,dS⟩,rest⟩
 ·simp only [List.length_nil] at y3
  simp only [runsG] at y2
  have c1:¬ (pre.length:Int) < (l.length:Int):=by omega
  unfold pl568_0
  refine Ud c1 ?_
  repeat intro hc
  simp [pf568,y2]
 ·simp only [List.length_cons] at y3
  simp only [runsG] at y2
  have hg:l[pre.length]? = some ⟨dT,dN,dS⟩:=by rw [y1]; simp
  obtain ⟨hlt,hge⟩:=List.getElem?_eq_some_iff.1 hg
  have c1:(pre.length:Int) < (l.length:Int):=by omega
  have hw:=Wi ((pre.length:Int) + 1)
  have hq:(o.length + 1) * 40≤70368744177664:=by omega
  rcases y5 with ⟨rfl,rfl⟩ | ⟨p,⟨xT,xN,xS⟩,o,c,rfl,rfl,h1,h2⟩
  ·simp only [List.length_nil,Nat.zero_add] at y3 hg hge hlt c1 hw hq
   unfold pl568_0
   refine Ud (J6 hg hge hlt c1 hw hq) ?_
   repeat intro hc
   exact ⟨([⟨dT,dN,dS⟩],rest,[⟨⟨dT,dN,dS⟩,1⟩]),by simp,⟨by rw [y1]; simp,by rw [y2]; rfl,by simp,.inr ⟨[],⟨dT,dN,dS⟩,[],1,rfl,rfl,by omega,by simp⟩⟩,by simp⟩
  ·simp only [List.length_append,List.length_cons,List.length_nil,Nat.zero_add] at y3 y4 hg hge hlt c1 hw hq h2
   have hg1:l[p.length]? = some ⟨xT,xN,xS⟩:=by rw [y1]; simp
   obtain ⟨hlt1,hge1⟩:=List.getElem?_eq_some_iff.1 hg1
   have hm1:IntKind.wrap .i64 (p.length:Int) = (p.length:Int):=wrap_i64 (by omega) (by omega)
   have hm2:IntKind.wrap .i64 (o.length:Int) = (o.length:Int):=wrap_i64 (by omega) (by omega)
   have hm3:=Wi (c + 1)
   have hcp:(0:Int) < (p.length:Int) + 1:=by omega
   have hco:(0:Int) < (o.length:Int) + 1:=by omega
   have hq2:(o.length + 1 + 1) * 40≤70368744177664:=by omega
   have hpl:(p.length:Int) < (l.length:Int):=by omega
   push_cast at *
   unfold pl568_0
   by_cases hv:valEq ⟨xT,xN,xS⟩ ⟨dT,dN,dS⟩ = true
   ·have e:=valEq_iff.1 hv
    simp only [XVal.mk.injEq] at e
    obtain ⟨rfl,rfl,rfl⟩:=e
    rw [runAdd_eq] at y2
    refine Ud (J8 hg hge hlt c1 hw hq hg1 (J8 hge1 hlt1 hm1 hm2 hm3 hcp hco (J5 hpl @set_last @get_last @get_last' @Int.add_sub_cancel))) ?_
    repeat intro hc
    exact ⟨(p ++ [⟨xT,xN,xS⟩] ++ [⟨xT,xN,xS⟩],rest,o ++ [⟨⟨xT,xN,xS⟩,c + 1⟩]),(by simp; try omega),⟨by rw [y1]; simp,y2,by simp; omega,.inr ⟨p ++ [⟨xT,xN,xS⟩],⟨xT,xN,xS⟩,o,c + 1,rfl,rfl,by omega,by simp; omega⟩⟩,by simp⟩
   ·rw [runAdd_ne _ _ _ _ (by simpa using hv)] at y2
    have hb:(xT == dT && (xN == dN && xS.toList == dS.toList)) = false:=by simpa [valEq] using hv
    refine Ud (J8 hg hge hlt c1 hw hq hq2 (J8 hg1 hge1 hlt1 hm1 hm2 hm3 hcp (J7 hco hpl @set_last @get_last @get_last' @Int.add_sub_cancel hb))) ?_
    repeat intro hc
    exact ⟨(p ++ [⟨xT,xN,xS⟩] ++ [⟨dT,dN,dS⟩],rest,o ++ [⟨⟨xT,xN,xS⟩,c⟩] ++ [⟨⟨dT,dN,dS⟩,1⟩]),(by simp; try omega),⟨by rw [y1]; simp,y2,by simp; omega,.inr ⟨p ++ [⟨xT,xN,xS⟩],⟨dT,dN,dS⟩,o ++ [⟨⟨xT,xN,xS⟩,c⟩],1,rfl,rfl,by omega,by simp; omega⟩⟩,by simp⟩

@[simp] theorem t552 (k0:Bool) (l:List XRun) (h:l.length≤1048576):Gw TT 552 [.one (.ro k0 (.sl 4 (l.map XRun.e)))] = some (.one (.own (.sl 3 ((spreadF l).map XVal.e))),[]):=by
 refine Ga pf552 pb552 ?_
 unfold pb552
 refine Ua Oo ?_
 refine wp_loopI (σ:=List XRun × List XRun × List XVal) (fun s => [(3,AV.pl 3 0 [],some (Rt.vir [C.own (D.sl 3 ((s.2.2).map XVal.e))])),(8,AV.v k0 (D.sl 4 (l.map XRun.e)),none),(9,AV.v false (di (l.length:Nat)),none),(10,AV.v false (di ((s.1.length:Nat):Int)),none)]) (fun s => l = s.1 ++ s.2.1∧spreadF l = spG s.2.2 s.2.1∧s.2.2.length≤64) (fun s => s.2.1.length) ([],l,[]) (by simp) ⟨rfl,rfl,by simp⟩ ?_
 rintro ⟨pre,rest,o⟩ ⟨y1,y2,y4⟩
 simp only at y1 y2 y4
 have y3:l.length = pre.length + rest.length:=by rw [y1,List.length_append]
 rcases rest with _ | ⟨⟨⟨dT,dN,dS⟩,K⟩,rest⟩
 ·simp only [List.length_nil] at y3
  simp only [spG] at y2
  have c1:¬ (pre.length:Int) < (l.length:Int):=by omega
  unfold pl552_1
  refine Ua c1 ?_
  simp [pf552,y2]
 ·simp only [List.length_cons] at y3
  simp only [spG] at y2
  have hg:l[pre.length]? = some ⟨⟨dT,dN,dS⟩,K⟩:=by rw [y1]; simp
  obtain ⟨hlt,hge⟩:=List.getElem?_eq_some_iff.1 hg
  have c1:(pre.length:Int) < (l.length:Int):=by omega
  have hw:=Wi ((pre.length:Int) + 1)
  have hm:=Wi (64 - (o.length:Int))
  by_cases q:K < 1 ∨ 64 - (o.length:Int) < K
  ·rw [if_pos q] at y2
   unfold pl552_1
   by_cases q1:K < 1
   ·refine Ua (J8 hg hge hlt c1 hw hm q1 y2) ?_
    simp [pf552,y2]
   ·have q2:64 - (o.length:Int) < K:=by omega
    refine Ua (J8 hg hge hlt c1 hw hm q1 (J2 q2 y2)) ?_
    simp [pf552,y2]
  ·rw [if_neg q] at y2
   obtain ⟨c,rfl⟩:=Int.eq_ofNat_of_zero_le (show 0≤K by omega)
   have q1:¬ (c:Int) < 1:=by omega
   have q2:¬ 64 - (o.length:Int) < (c:Int):=by omega
   have hc:((c:Int)).toNat = c:=by omega
   rw [hc] at y2
   unfold pl552_1
   refine Ua (J8 hg hge hlt c1 hw hm q1 q2) ?_
   refine wp_loopI (σ:=Nat) (fun s => [(3,AV.pl 3 0 [],some (Rt.vir [C.own (D.sl 3 ((o ++ List.replicate s (⟨dT,dN,dS⟩:XVal)).map XVal.e))])),(5,AV.bx 5 0,some (Rt.bx [.ro false (di dT),.ro false (di dN),.ro false (.str dS),.ro false (di (c:Nat))])),(6,AV.v false (di ((s:Nat):Int)),none),(8,AV.v k0 (D.sl 4 (l.map XRun.e)),none),(9,AV.v false (di (l.length:Nat)),none),(10,AV.v false (di ((pre.length:Nat):Int)),none)]) (fun s => s≤c) (fun s => c - s) 0 (by simp) (by omega) ?_
   intro m hmc
   by_cases e:m = c
   ·subst e
    have e1:¬ (m:Int) < (m:Int):=by omega
    unfold pl552_0
    refine Ua (J5 e1 hw hg hge hlt) ?_
    exact ⟨(pre ++ [⟨⟨dT,dN,dS⟩,(m:Int)⟩],rest,o ++ List.replicate m ⟨dT,dN,dS⟩),(by simp; try omega),⟨by rw [y1]; simp,y2,by simp; omega⟩,by simp⟩
   ·have e1:(m:Int) < (c:Int):=by omega
    have hw2:=Wi ((m:Int) + 1)
    have hq:(o.length + m + 1) * 32≤70368744177664:=by omega
    have hr:List.replicate (m + 1) (⟨dT,dN,dS⟩:XVal) = List.replicate m ⟨dT,dN,dS⟩ ++ [⟨dT,dN,dS⟩]:=List.replicate_succ'
    unfold pl552_0
    refine Ua (J7 e1 hw2 hq hg hge hlt c1) ?_
    exact ⟨m + 1,(by simp [List.replicate_succ']; try omega),by show m + 1≤c; omega,by show c - (m + 1) < c - m; omega⟩

@[simp] theorem t539 (k0:Bool) (l:List XRun) (h:l.length≤1048576):Gw TT 539 [.one (.ro k0 (.sl 4 (l.map XRun.e)))] = some (.one (.own (.sl 3 ((spreadF l).map XVal.e))),[]):=by
 refine Ga pf539 pb539 ?_
 unfold pb539
 refine Ua Oo ?_
 refine wp_loopI (σ:=List XRun × List XRun × List XVal) (fun s => [(0,AV.v k0 (D.sl 4 (l.map XRun.e)),none),(3,AV.pl 3 0 [],some (Rt.vir [C.own (D.sl 3 ((s.2.2).map XVal.e))])),(4,AV.v false (di ((s.1.length:Nat):Int)),none)]) (fun s => l = s.1 ++ s.2.1∧spreadF l = spG s.2.2 s.2.1∧s.2.2.length≤64) (fun s => s.2.1.length) ([],l,[]) (by simp) ⟨rfl,rfl,by simp⟩ ?_
 rintro ⟨pre,rest,o⟩ ⟨y1,y2,y4⟩
 simp only at y1 y2 y4
 have y3:l.length = pre.length + rest.length:=by rw [y1,List.length_append]
 rcases rest with _ | ⟨⟨⟨dT,dN,dS⟩,K⟩,rest⟩
 ·simp only [List.length_nil] at y3
  simp only [spG] at y2
  have c1:¬ (pre.length:Int) < (l.length:Int):=by omega
  unfold pl539_1
  refine Ua c1 ?_
  simp [pf539,y2]
 ·simp only [List.length_cons] at y3
  simp only [spG] at y2
  have hg:l[pre.length]? = some ⟨⟨dT,dN,dS⟩,K⟩:=by rw [y1]; simp
  obtain ⟨hlt,hge⟩:=List.getElem?_eq_some_iff.1 hg
  have c1:(pre.length:Int) < (l.length:Int):=by omega
  have hw:=Wi ((pre.length:Int) + 1)
  have hm:=Wi (64 - (o.length:Int))
  by_cases q:K < 1 ∨ 64 - (o.length:Int) < K
  ·rw [if_pos q] at y2
   unfold pl539_1
   by_cases q1:K < 1
   ·refine Ua (J8 hg hge hlt c1 hw hm q1 y2) ?_
    simp [pf539,y2]
   ·have q2:64 - (o.length:Int) < K:=by omega
    refine Ua (J8 hg hge hlt c1 hw hm q1 (J2 q2 y2)) ?_
    simp [pf539,y2]
  ·rw [if_neg q] at y2
   obtain ⟨c,rfl⟩:=Int.eq_ofNat_of_zero_le (show 0≤K by omega)
   have q1:¬ (c:Int) < 1:=by omega
   have q2:¬ 64 - (o.length:Int) < (c:Int):=by omega
   have hc:((c:Int)).toNat = c:=by omega
   rw [hc] at y2
   unfold pl539_1
   refine Ua (J8 hg hge hlt c1 hw hm q1 q2) ?_
   refine wp_loopI (σ:=Nat) (fun s => [(0,AV.v k0 (D.sl 4 (l.map XRun.e)),none),(3,AV.pl 3 0 [],some (Rt.vir [C.own (D.sl 3 ((o ++ List.replicate s (⟨dT,dN,dS⟩:XVal)).map XVal.e))])),(4,AV.v false (di ((pre.length:Nat):Int)),none),(5,AV.v false (di ((s:Nat):Int)),none)]) (fun s => s≤c) (fun s => c - s) 0 (by simp) (by omega) ?_
   intro m hmc
   by_cases e:m = c
   ·subst e
    have e1:¬ (m:Int) < (m:Int):=by omega
    unfold pl539_0
    refine Ua (J5 e1 hw hg hge hlt) ?_
    exact ⟨(pre ++ [⟨⟨dT,dN,dS⟩,(m:Int)⟩],rest,o ++ List.replicate m ⟨dT,dN,dS⟩),(by simp; try omega),⟨by rw [y1]; simp,y2,by simp; omega⟩,by simp⟩
   ·have e1:(m:Int) < (c:Int):=by omega
    have hw2:=Wi ((m:Int) + 1)
    have hq:(o.length + m + 1) * 32≤70368744177664:=by omega
    have hr:List.replicate (m + 1) (⟨dT,dN,dS⟩:XVal) = List.replicate m ⟨dT,dN,dS⟩ ++ [⟨dT,dN,dS⟩]:=List.replicate_succ'
    unfold pl539_0
    refine Ua (J7 e1 hw2 hq hg hge hlt c1) ?_
    exact ⟨m + 1,(by simp [List.replicate_succ']; try omega),by show m + 1≤c; omega,by show c - (m + 1) < c - m; omega⟩

@[simp] theorem n531 (k0:Bool) (n:Int):Gw TT 531 [.one (.ro k0 (.sl 1 [])),vi n] = some (.one (.own (.sl 1 ((encN n).map eb))),[]):=by
 have:=t531 k0 [] n (by simp)
 simpa using this

@[simp] theorem n566 (k0:Bool) (n:Int):Gw TT 566 [.one (.ro k0 (.sl 1 [])),vi n] = some (.one (.own (.sl 1 ((encN n).map eb))),[]):=by
 have:=t566 k0 [] n (by simp)
 simpa using this

theorem runAdd_mem {o:List XRun} {v:XVal} {r:XRun} (h:r ∈ runAdd o v):(∃ q ∈ o,q.V = r.V) ∨ r.V = v:=by
 unfold runAdd at h
 split at h
 ·rename_i q hq
  have hqm:=List.mem_of_getLast? hq
  split at h
  ·rcases List.mem_append.1 h with h | h
   ·exact .inl ⟨r,(List.dropLast_sublist o).subset h,rfl⟩
   ·simp at h; subst h; exact .inl ⟨q,hqm,rfl⟩
  ·rcases List.mem_append.1 h with h | h
   ·exact .inl ⟨r,h,rfl⟩
   ·simp at h; subst h; exact .inr rfl
 ·simp at h; subst h; exact .inr rfl

theorem runsG_mem:∀ {l:List XVal} {o:List XRun} {r:XRun},r ∈ runsG o l→(∃ q ∈ o,q.V = r.V) ∨ r.V ∈ l
 | [],o,r,h => .inl ⟨r,h,rfl⟩
 | v :: l,o,r,h => by
  rcases runsG_mem (l:=l) h with ⟨q,hq,e⟩ | h
  ·rcases runAdd_mem hq with ⟨q',hq',e'⟩ | e'
   ·exact .inl ⟨q',hq',e'.trans e⟩
   ·exact .inr (by rw [← e,e']; simp)
  ·exact .inr (by simp [h])

theorem runsF_mem {l:List XVal} {r:XRun} (h:r ∈ runsF l):r.V ∈ l:=by
 rcases runsG_mem h with ⟨q,hq,_⟩ | h
 ·simp at hq
 ·exact h

theorem typF_sz {l:List XVal} (h:typF l ≠ 0):∀ v ∈ l,v.S.size≤6:=fun v hv => valOkF_len (typA_mem (typF_ne h).2.2.1 v hv).1

@[simp] theorem t553 (k0:Bool) (l:List XVal) (h:l.length≤1048576) (hs:XVal.sms l):Gw TT 553 [.one (.ro k0 (.sl 3 (l.map XVal.e)))] = some (.one (.own (.sl 1 ((encR l).map eb))),[]):=by
 refine Ga pf553 pb553 ?_
 unfold pb553
 by_cases q:typF l = 0
 ·have he:encR l = []:=by simp [encR,q]
  refine Uw (J4 h hs q he) ?_
  simp [pf553,he]
 ·have he:encR l = encN (runsF l).length ++ encRs (runsF l):=by simp [encR,q]
  obtain ⟨q1,q2,_,_⟩:=typF_ne q
  have hm:∀ r ∈ runsF l,r.V.S.size≤6:=fun r hr => typF_sz q _ (runsF_mem hr)
  have hrl:=runsF_len l
  obtain ⟨R,hR⟩:∃ R,R = runsF l:=⟨_,rfl⟩
  rw [← hR] at he hm hrl
  have hn:=encN_len (R.length:Int)
  repeat' first|refine Zs ?_|((with_reducible refine Xk fun K k=>?_);simp [h,hs,q,he,← hR];refine k _ ?_;clear k K)|refine Xt rfl ?_|refine Xf rfl ?_|(refine We rfl ?_ ?_<;>(intro hc;(try simp at hc);(all_goals first|(exfalso;omega)|skip)))
  refine wp_loopI (σ:=List XRun × List XRun × List Int) (fun s => [(3,AV.pl 3 0 [],some (Rt.vir [C.own (D.sl 1 ((s.2.2).map eb))])),(4,AV.pl 4 0 [],some (Rt.vir [C.own (D.sl 4 (R.map XRun.e))])),(18,AV.pl 4 0 [],none),(19,AV.v false (di (R.length:Nat)),none),(20,AV.v false (di ((s.1.length:Nat):Int)),none)]) (fun s => R = s.1 ++ s.2.1∧s.2.2 ++ encRs s.2.1 = encR l∧s.2.2.length≤5 + 12 * s.1.length) (fun s => s.2.1.length) ([],R,encN R.length) (by simp) ⟨rfl,he.symm,by simp; omega⟩ ?_
  rintro ⟨pre,rest,a⟩ ⟨y1,y2,y4⟩
  simp only at y1 y2 y4
  have y3:R.length = pre.length + rest.length:=by rw [y1,List.length_append]
  rcases rest with _ | ⟨⟨⟨dT,dN,dS⟩,K⟩,rest⟩
  ·simp only [List.length_nil] at y3
   simp only [encRs,List.flatMap_nil,List.append_nil] at y2
   have c1:¬ (pre.length:Int) < (R.length:Int):=by omega
   unfold pl553_0
   refine Uw c1 ?_
   simp [pf553,y2]
  ·simp only [List.length_cons] at y3
   have hd:=hm ⟨⟨dT,dN,dS⟩,K⟩ (by rw [y1]; simp)
   simp only at hd
   have hd2:dS.size≤1048576:=by omega
   have hg:R[pre.length]? = some ⟨⟨dT,dN,dS⟩,K⟩:=by rw [y1]; simp
   obtain ⟨hlt,hge⟩:=List.getElem?_eq_some_iff.1 hg
   have c1:(pre.length:Int) < (R.length:Int):=by omega
   have hw:=Wi ((pre.length:Int) + 1)
   have hk:=encN_len K
   have hp:=putV_len ⟨dT,dN,dS⟩
   have ha:a.length≤1048576:=by omega
   have ha2:a.length + (encN K).length≤1048000:=by omega
   have h5:=t579 true (a ++ encN K) dT dN dS (by simp only [List.length_append]; exact ha2) hd2
   simp only [List.map_append] at h5
   unfold pl553_0
   refine Uw (J8 hg hge hlt c1 hw hd2 ha (J2 ha2 h5)) ?_
   exact ⟨(pre ++ [⟨⟨dT,dN,dS⟩,K⟩],rest,a ++ (encN K ++ putV ⟨dT,dN,dS⟩)),(by simp; try omega),⟨by rw [y1]; simp,by rw [← y2]; simp [encRs,putR],by simp only [List.length_append,List.length_cons,List.length_nil]; omega⟩,by simp⟩

@[simp] theorem t540 (k0:Bool) (l:List XVal) (h:l.length≤1048576) (hs:XVal.sms l):Gw TT 540 [.one (.ro k0 (.sl 3 (l.map XVal.e)))] = some (.one (.own (.sl 1 ((encR l).map eb))),[]):=by
 refine Ga pf540 pb540 ?_
 unfold pb540
 by_cases q:typF l = 0
 ·have he:encR l = []:=by simp [encR,q]
  refine Uw (J4 h hs q he) ?_
  simp [pf540,he]
 ·have he:encR l = encN (runsF l).length ++ encRs (runsF l):=by simp [encR,q]
  obtain ⟨q1,q2,_,_⟩:=typF_ne q
  have hm:∀ r ∈ runsF l,r.V.S.size≤6:=fun r hr => typF_sz q _ (runsF_mem hr)
  have hrl:=runsF_len l
  obtain ⟨R,hR⟩:∃ R,R = runsF l:=⟨_,rfl⟩
  rw [← hR] at he hm hrl
  have hn:=encN_len (R.length:Int)
  repeat' first|refine Zs ?_|((with_reducible refine Xk fun K k=>?_);simp [h,hs,q,he,← hR];refine k _ ?_;clear k K)|refine Xt rfl ?_|refine Xf rfl ?_|(refine We rfl ?_ ?_<;>(intro hc;(try simp at hc);(all_goals first|(exfalso;omega)|skip)))
  refine wp_loopI (σ:=List XRun × List XRun × List Int) (fun s => [(3,AV.pl 3 0 [],some (Rt.vir [C.own (D.sl 4 (R.map XRun.e))])),(4,AV.pl 4 0 [],some (Rt.vir [C.own (D.sl 1 ((s.2.2).map eb))])),(5,AV.v false (di ((s.1.length:Nat):Int)),none)]) (fun s => R = s.1 ++ s.2.1∧s.2.2 ++ encRs s.2.1 = encR l∧s.2.2.length≤5 + 12 * s.1.length) (fun s => s.2.1.length) ([],R,encN R.length) (by simp) ⟨rfl,he.symm,by simp; omega⟩ ?_
  rintro ⟨pre,rest,a⟩ ⟨y1,y2,y4⟩
  simp only at y1 y2 y4
  have y3:R.length = pre.length + rest.length:=by rw [y1,List.length_append]
  rcases rest with _ | ⟨⟨⟨dT,dN,dS⟩,K⟩,rest⟩
  ·simp only [List.length_nil] at y3
   simp only [encRs,List.flatMap_nil,List.append_nil] at y2
   have c1:¬ (pre.length:Int) < (R.length:Int):=by omega
   unfold pl540_0
   refine Uw c1 ?_
   simp [pf540,y2]
  ·simp only [List.length_cons] at y3
   have hd:=hm ⟨⟨dT,dN,dS⟩,K⟩ (by rw [y1]; simp)
   simp only at hd
   have hd2:dS.size≤1048576:=by omega
   have hg:R[pre.length]? = some ⟨⟨dT,dN,dS⟩,K⟩:=by rw [y1]; simp
   obtain ⟨hlt,hge⟩:=List.getElem?_eq_some_iff.1 hg
   have c1:(pre.length:Int) < (R.length:Int):=by omega
   have hw:=Wi ((pre.length:Int) + 1)
   have hk:=encN_len K
   have hp:=putV_len ⟨dT,dN,dS⟩
   have ha:a.length≤1048576:=by omega
   have ha2:a.length + (encN K).length≤1048000:=by omega
   have h5:=t569 true (a ++ encN K) dT dN dS (by simp only [List.length_append]; exact ha2) hd2
   simp only [List.map_append] at h5
   unfold pl540_0
   refine Uw (J8 hg hge hlt c1 hw hd2 ha (J2 ha2 h5)) ?_
   exact ⟨(pre ++ [⟨⟨dT,dN,dS⟩,K⟩],rest,a ++ (encN K ++ putV ⟨dT,dN,dS⟩)),(by simp; try omega),⟨by rw [y1]; simp,by rw [← y2]; simp [encRs,putR],by simp only [List.length_append,List.length_cons,List.length_nil]; omega⟩,by simp⟩

theorem getR_some1 {b:List Int} {u ty n t:Int} (h:gN b u = some (n,t)):getR b u ty = match getV b t ty with
  | some (v,t2) => some (⟨v,n⟩,t2)
  | none => none:=by unfold getR; rw [h]; try rfl

theorem getR_none1 {b:List Int} {u ty:Int} (h:gN b u = none):getR b u ty = none:=by unfold getR; rw [h]

theorem getV_sz {b:List Int} {u ty t:Int} {v:XVal} (hb:bytesOk b) (h:getV b u ty = some (v,t)):v.S.size≤6:=valOkF_len (getV_can hb h).1.1

theorem getRs_sz {b:List Int} {ty:Int} (hb:bytesOk b):∀ {k:Nat} {u t:Int} {l:List XRun},getRs b ty k u = some (l,t)→∀ r ∈ l,r.V.S.size≤6
 | 0,u,t,l,h,r,hr => by simp only [getRs,Option.some.injEq,Prod.mk.injEq] at h; rw [← h.1] at hr; simp at hr
 | k + 1,u,t,l,h,r,hr => by
  simp only [getRs] at h
  split at h
  ·rename_i v t1 hv
   split at h
   ·rename_i hl
    simp only [Option.some.injEq,Prod.mk.injEq] at h
    rw [← h.1] at hr
    rcases List.mem_cons.1 hr with rfl | hr
    ·unfold getR at hv
     split at hv
     ·split at hv
      ·rename_i hg
       simp only [Option.some.injEq,Prod.mk.injEq] at hv
       rw [← hv.1]
       exact getV_sz hb hg
      ·cases hv
     ·cases hv
    ·exact getRs_sz hb hl r hr
   ·cases h
  ·cases h

theorem spG_mem:∀ {l:List XRun} {o:List XVal} {v:XVal},v ∈ spG o l→v ∈ o ∨ ∃ r ∈ l,r.V = v
 | [],o,v,h => .inl h
 | r :: l,o,v,h => by
  simp only [spG] at h
  split at h
  ·simp at h
  ·rcases spG_mem h with h | ⟨q,hq,e⟩
   ·rcases List.mem_append.1 h with h | h
    ·exact .inl h
    ·exact .inr ⟨r,by simp,(List.eq_of_mem_replicate h).symm⟩
   ·exact .inr ⟨q,by simp [hq],e⟩

theorem spreadF_sms {l:List XRun} (h:∀ r ∈ l,r.V.S.size≤6):XVal.sms (spreadF l):=fun v hv => by
 rcases spG_mem hv with hv | ⟨r,hr,e⟩
 ·simp at hv
 ·have:=h r hr
  simp only [XVal.sm]; rw [← e]; omega

@[simp] theorem t515 (k0:Bool) (b:List Int) (ty k:Int) (h:b.length≤1048576) (hb:bytesOk b):Gw TT 515 [.one (.ro k0 (.sl 1 (b.map eb))),vi ty,vi k] = some (odV (decR b ty k),[]):=by
 refine Ga pf515 pb515 ?_
 unfold pb515
 cases hg:gN b 0 with
 | none =>
  have hdr:decR b ty k = none:=by unfold decR; rw [hg]
  refine Ud (J4 h hb hg hdr) ?_
  simp [pf515,hdr]
 | some q =>
  obtain ⟨n,u⟩:=q
  by_cases q1:1≤n∧n≤64
  ·obtain ⟨m,rfl⟩:=Int.eq_ofNat_of_zero_le (show 0≤n by omega)
   have q2:(1:Int)≤(m:Int):=q1.1
   have q3:(m:Int)≤64:=q1.2
   by_cases q4:1≤k∧k≤64
   ·have hdr:∀ {r:List XRun} {t:Int},getRs b ty m u = some (r,t)→decR b ty k = chkE b k encR (spreadF r):=fun {r t} hr => by
     unfold decR; rw [hg]; simp only; rw [if_pos q1,show ((m:Int)).toNat = m by omega,hr]
    have hdn:getRs b ty m u = none→decR b ty k = none:=fun hr => by
     unfold decR; rw [hg]; simp only; rw [if_pos q1,show ((m:Int)).toNat = m by omega,hr]
    refine Ud (J7 h hb hg q2 q3 q4.1 q4.2) ?_
    refine wp_loopI (σ:=List XRun × (Nat × Int)) (fun s => [(0,AV.v k0 (D.sl 1 (b.map eb)),none),(1,AV.v false (di ty),none),(2,AV.v false (di k),none),(8,AV.pl 8 0 [],some (Rt.vir [C.own (D.sl 3 [])])),(9,AV.v false (di (m:Nat)),none),(10,AV.v false (di s.2.2),none),(12,AV.pl 12 0 [],some (Rt.vir [C.own (D.sl 4 (s.1.map XRun.e))])),(13,AV.v false (di (s.1.length:Nat)),none)]) (fun s => s.1.length + s.2.1 = m∧getRs b ty m u = preL s.1 (getRs b ty s.2.1 s.2.2)) (fun s => s.2.1) ([],(m,u)) (by simp) ⟨by simp,by rw [preL_nil]⟩ ?_
    rintro ⟨a,⟨i,v⟩⟩ ⟨y1,y2⟩
    simp only at y1 y2
    have hq:(a.length + 1) * 40≤70368744177664:=by omega
    cases i with
    | zero =>
     have c1:¬ (a.length:Int) < (m:Int):=by omega
     simp only [getRs,preL_some,List.append_nil] at y2
     have hd:=hdr y2
     have hS:=spreadF_sms (getRs_sz hb y2)
     have hSl:=spreadF_len a
     obtain ⟨S,hSe⟩:∃ S,S = spreadF a:=⟨_,rfl⟩
     rw [← hSe] at hd hS hSl
     have hS2:S.length≤1048576:=by omega
     have ha:a.length≤1048576:=by omega
     have hse:=strEq (encR_ok S) hb
     unfold pl515_0
     by_cases e1:(S.length:Int) = k
     ·have e2:¬ k = (S.length:Int)→False:=fun e => e e1.symm
      by_cases e3:encR S = b
      ·have e4:((strOf (encR S)).toList == (strOf b).toList) = true:=by rw [hse]; simpa using e3
       have hd2:decR b ty k = some S:=by rw [hd]; unfold chkE; rw [if_pos ⟨q4,e1,e3.symm⟩]
       repeat' first|refine Zs ?_|((with_reducible refine Xk fun K k=>?_);simp [c1,ha,← hSe,hS,hS2,e1,e4,hd2];(repeat' (with_reducible first|refine k _ ?_|(refine psel ?_ ?_<;>(intro hc;(try rw [Decidable.not_not] at hc);first|(exfalso;omega)|(try simp [hc,c1,ha,← hSe,hS,hS2,e1,e4,hd2])))));all_goals clear k K)|refine Xt rfl ?_|refine Xf rfl ?_|(refine We rfl ?_ ?_<;>(intro hc;(try simp at hc);(all_goals first|(exfalso;omega)|skip)))
       simp [pf515,hd2]
      ·have e4:((strOf (encR S)).toList == (strOf b).toList) = false:=by rw [hse]; simpa using e3
       have hd2:decR b ty k = none:=by rw [hd]; unfold chkE; rw [if_neg (fun e => e3 e.2.2.symm)]
       repeat' first|refine Zs ?_|((with_reducible refine Xk fun K k=>?_);simp [c1,ha,← hSe,hS,hS2,e1,e4,hd2];(repeat' (with_reducible first|refine k _ ?_|(refine psel ?_ ?_<;>(intro hc;(try rw [Decidable.not_not] at hc);first|(exfalso;omega)|(try simp [hc,c1,ha,← hSe,hS,hS2,e1,e4,hd2])))));all_goals clear k K)|refine Xt rfl ?_|refine Xf rfl ?_|(refine We rfl ?_ ?_<;>(intro hc;(try simp at hc);(all_goals first|(exfalso;omega)|skip)))
       simp [pf515,hd2]
     ·have hd2:decR b ty k = none:=by rw [hd]; unfold chkE; rw [if_neg (fun e => e1 e.2.1)]
      repeat' first|refine Zs ?_|((with_reducible refine Xk fun K k=>?_);simp [c1,ha,← hSe,hS,hS2,e1,hd2];(repeat' (with_reducible first|refine k _ ?_|(refine psel ?_ ?_<;>(intro hc;(try rw [Decidable.not_not] at hc);first|(exfalso;omega)|(try simp [hc,c1,ha,← hSe,hS,hS2,e1,hd2])))));all_goals clear k K)|refine Xt rfl ?_|refine Xf rfl ?_|(refine We rfl ?_ ?_<;>(intro hc;(try simp at hc);(all_goals first|(exfalso;omega)|skip)))
      simp [pf515,hd2]
    | succ i =>
     have c1:(a.length:Int) < (m:Int):=by omega
     have hw:=Wi ((a.length:Int) + 1)
     cases hv:gN b v with
     | none =>
      rw [getRs_none (getR_none1 hv)] at y2
      have hd2:=hdn y2
      unfold pl515_0
      cases hv0:getV b 0 ty with
      | none =>
       refine Ud (J7 c1 hw h hb hv hv0 hd2) ?_
       simp [pf515,hd2]
      | some q =>
       obtain ⟨⟨dT,dN,dS⟩,t⟩:=q
       refine Ud (J7 c1 hw h hb hv hv0 hd2) ?_
       simp [pf515,hd2]
     | some q =>
      obtain ⟨c,t1⟩:=q
      have hr1:=getR_some1 (ty:=ty) hv
      cases hv2:getV b t1 ty with
      | none =>
       rw [hv2] at hr1
       rw [getRs_none hr1] at y2
       have hd2:=hdn y2
       unfold pl515_0
       refine Ud (J7 c1 hw h hb hv hv2 hd2) ?_
       simp [pf515,hd2]
      | some q =>
       obtain ⟨⟨dT,dN,dS⟩,t⟩:=q
       rw [hv2] at hr1
       rw [getRs_some hr1] at y2
       unfold pl515_0
       refine Ud (J7 c1 hw h hb hv hv2 hq) ?_
       exact ⟨(a ++ [⟨⟨dT,dN,dS⟩,c⟩],(i,t)),(by simp; try omega),⟨by simp; omega,y2⟩,by simp⟩
   ·have hd2:decR b ty k = none:=by
     unfold decR; rw [hg]; simp only
     rw [if_pos q1]
     split
     ·unfold chkE; rw [if_neg (fun e => q4 e.1)]
     ·rfl
    refine Ud (J6 h hb hg q2 q3 hd2) ?_
    repeat intro hc
    simp [pf515,hd2]
  ·have hd2:decR b ty k = none:=by
    unfold decR; rw [hg]; simp only
    rw [if_neg q1]
   by_cases q4:1≤k∧k≤64
   ·refine Ud (J6 h hb hg q4.1 q4.2 hd2) ?_
    repeat intro hc
    simp [pf515,hd2]
   ·refine Ud (J4 h hb hg hd2) ?_
    repeat intro hc
    simp [pf515,hd2]

@[simp] theorem t508 (a x_N:Int) (x_S:ByteArray) (aa y_N:Int) (y_S:ByteArray):Gw TT 508 [.st [.ro false (di a),.ro false (di x_N),.ro false (.str x_S)],.st [.ro false (di aa),.ro false (di y_N),.ro false (.str y_S)]] = some (vb (ltVF a x_N x_S aa y_N y_S),[]):=by
 refine Ga pf508 pb508 ?_
 unfold pb508
 by_cases q1:a = aa
 ·by_cases q2:x_N = y_N
  ·subst q1; subst q2
   refine Uw Oo ?_
   simp [pf508,ltVF]
  ·subst q1
   refine Uw q2 ?_
   repeat intro hc
   simp [pf508,ltVF,q2]
 ·refine Uw q1 ?_
  repeat intro hc
  simp [pf508,ltVF,q1]

@[simp] theorem t505 (a x_N:Int) (x_S:ByteArray) (aa y_N:Int) (y_S:ByteArray):Gw TT 505 [.st [.ro false (di a),.ro false (di x_N),.ro false (.str x_S)],.st [.ro false (di aa),.ro false (di y_N),.ro false (.str y_S)]] = some (vb (ltVF a x_N x_S aa y_N y_S),[]):=by
 refine Ga pf505 pb505 ?_
 unfold pb505
 by_cases q1:a = aa
 ·by_cases q2:x_N = y_N
  ·subst q1; subst q2
   refine Uw Oo ?_
   simp [pf505,ltVF]
  ·subst q1
   refine Uw q2 ?_
   repeat intro hc
   simp [pf505,ltVF,q2]
 ·refine Uw q1 ?_
  repeat intro hc
  simp [pf505,ltVF,q1]

def cmpVF (t n:Int) (s:ByteArray) (t' n':Int) (s':ByteArray):Int:=if ltVF t n s t' n' s' = true then -1 else if ltVF t' n' s' t n s = true then 1 else 0

@[simp] theorem t596 (a x_N:Int) (x_S:ByteArray) (aa y_N:Int) (y_S:ByteArray):Gw TT 596 [.st [.ro false (di a),.ro false (di x_N),.ro false (.str x_S)],.st [.ro false (di aa),.ro false (di y_N),.ro false (.str y_S)]] = some (vi (cmpVF a x_N x_S aa y_N y_S),[]):=by
 refine Ga pf596 pb596 ?_
 unfold pb596
 cases q1:ltVF a x_N x_S aa y_N y_S with
 | true =>
  refine Ua q1 ?_
  simp [pf596,cmpVF,q1]
 | false =>
  cases q2:ltVF aa y_N y_S a x_N x_S with
  | true =>
   refine Ua (J2 q1 q2) ?_
   simp [pf596,cmpVF,q1,q2]
  | false =>
   refine Ua (J2 q1 q2) ?_
   simp [pf596,cmpVF,q1,q2]

theorem valEq_comm (a b:XVal):valEq a b = valEq b a:=by
 cases h:valEq a b with
 | true => have:=valEq_iff.1 h; subst this; exact h.symm
 | false =>
  cases h2:valEq b a with
  | true => have:=valEq_iff.1 h2; subst this; rw [h2] at h; cases h
  | false => rfl

@[simp] theorem t600 (k0:Bool) (d:List XVal) (a x_N:Int) (x_S:ByteArray) (h:d.length≤1048576):Gw TT 600 [.one (.ro k0 (.sl 3 (d.map XVal.e))),.st [.ro false (di a),.ro false (di x_N),.ro false (.str x_S)]] = some (vi (inD ⟨a,x_N,x_S⟩ d 0),[]):=by
 refine Ga pf600 pb600 ?_
 unfold pb600
 refine Ua Oo ?_
 refine wp_loopI (σ:=List XVal × List XVal) (fun s => [(0,AV.v k0 (D.sl 3 (d.map XVal.e)),none),(3,AV.bx 3 0,some (Rt.bx [.ro false (di a),.ro false (di x_N),.ro false (.str x_S)])),(7,AV.v false (di (d.length:Nat)),none),(8,AV.v false (di ((s.1.length:Nat):Int)),none)]) (fun s => d = s.1 ++ s.2∧inD ⟨a,x_N,x_S⟩ d 0 = inD ⟨a,x_N,x_S⟩ s.2 s.1.length) (fun s => s.2.length) ([],d) (by simp) ⟨rfl,rfl⟩ ?_
 rintro ⟨pre,rest⟩ ⟨y1,y2⟩
 simp only at y1 y2
 have y3:d.length = pre.length + rest.length:=by rw [y1,List.length_append]
 rcases rest with _ | ⟨⟨dT,dN,dS⟩,rest⟩
 ·simp only [List.length_nil] at y3
  simp only [inD] at y2
  have c1:¬ (pre.length:Int) < (d.length:Int):=by omega
  unfold pl600_0
  refine Ua (J2 c1 y2) ?_
  simp [pf600,y2]
 ·simp only [List.length_cons] at y3
  simp only [inD] at y2
  have hg:d[pre.length]? = some ⟨dT,dN,dS⟩:=by rw [y1]; simp
  obtain ⟨hlt,hge⟩:=List.getElem?_eq_some_iff.1 hg
  have c1:(pre.length:Int) < (d.length:Int):=by omega
  have hw:=Wi ((pre.length:Int) + 1)
  unfold pl600_0
  cases hv:valEq ⟨dT,dN,dS⟩ ⟨a,x_N,x_S⟩ with
  | true =>
   rw [if_pos hv] at y2
   have e:=valEq_iff.1 hv
   simp only [XVal.mk.injEq] at e
   obtain ⟨rfl,rfl,rfl⟩:=e
   refine Ua (J6 hg hge hlt c1 hw y2) ?_
   simp [pf600,y2]
  | false =>
   rw [if_neg (by rw [hv]; simp)] at y2
   have hb1:(dT == a && (dN == x_N && dS.toList == x_S.toList)) = false:=hv
   have hb2:(a == dT && (x_N == dN && x_S.toList == dS.toList)) = false:=(valEq_comm ⟨a,x_N,x_S⟩ ⟨dT,dN,dS⟩).trans hv
   refine Ua (J7 hg hge hlt c1 hw hb1 hb2) ?_
   exact ⟨(pre ++ [⟨dT,dN,dS⟩],rest),(by simp; try omega),⟨by rw [y1]; simp,by rw [y2]; simp⟩,by simp⟩

@[simp] theorem t591 (k0:Bool) (d:List XVal) (a x_N:Int) (x_S:ByteArray) (h:d.length≤1048576):Gw TT 591 [.one (.ro k0 (.sl 3 (d.map XVal.e))),.st [.ro false (di a),.ro false (di x_N),.ro false (.str x_S)]] = some (vi (inD ⟨a,x_N,x_S⟩ d 0),[]):=by
 refine Ga pf591 pb591 ?_
 unfold pb591
 refine Ua Oo ?_
 refine wp_loopI (σ:=List XVal × List XVal) (fun s => [(0,AV.v k0 (D.sl 3 (d.map XVal.e)),none),(3,AV.bx 3 0,some (Rt.bx [.ro false (di a),.ro false (di x_N),.ro false (.str x_S)])),(5,AV.v false (di ((s.1.length:Nat):Int)),none)]) (fun s => d = s.1 ++ s.2∧inD ⟨a,x_N,x_S⟩ d 0 = inD ⟨a,x_N,x_S⟩ s.2 s.1.length) (fun s => s.2.length) ([],d) (by simp) ⟨rfl,rfl⟩ ?_
 rintro ⟨pre,rest⟩ ⟨y1,y2⟩
 simp only at y1 y2
 have y3:d.length = pre.length + rest.length:=by rw [y1,List.length_append]
 rcases rest with _ | ⟨⟨dT,dN,dS⟩,rest⟩
 ·simp only [List.length_nil] at y3
  simp only [inD] at y2
  have c1:¬ (pre.length:Int) < (d.length:Int):=by omega
  unfold pl591_0
  refine Ua (J2 c1 y2) ?_
  simp [pf591,y2]
 ·simp only [List.length_cons] at y3
  simp only [inD] at y2
  have hg:d[pre.length]? = some ⟨dT,dN,dS⟩:=by rw [y1]; simp
  obtain ⟨hlt,hge⟩:=List.getElem?_eq_some_iff.1 hg
  have c1:(pre.length:Int) < (d.length:Int):=by omega
  have hw:=Wi ((pre.length:Int) + 1)
  unfold pl591_0
  cases hv:valEq ⟨dT,dN,dS⟩ ⟨a,x_N,x_S⟩ with
  | true =>
   rw [if_pos hv] at y2
   have e:=valEq_iff.1 hv
   simp only [XVal.mk.injEq] at e
   obtain ⟨rfl,rfl,rfl⟩:=e
   refine Ua (J6 hg hge hlt c1 hw y2) ?_
   simp [pf591,y2]
  | false =>
   rw [if_neg (by rw [hv]; simp)] at y2
   have hb1:(dT == a && (dN == x_N && dS.toList == x_S.toList)) = false:=hv
   have hb2:(a == dT && (x_N == dN && x_S.toList == dS.toList)) = false:=(valEq_comm ⟨a,x_N,x_S⟩ ⟨dT,dN,dS⟩).trans hv
   refine Ua (J7 hg hge hlt c1 hw hb1 hb2) ?_
   exact ⟨(pre ++ [⟨dT,dN,dS⟩],rest),(by simp; try omega),⟨by rw [y1]; simp,by rw [y2]; simp⟩,by simp⟩

@[simp] theorem t598 (k0:Bool) (d:List XVal) (a x_N:Int) (x_S:ByteArray) (h:d.length≤1048576):Gw TT 598 [.one (.ro k0 (.sl 3 (d.map XVal.e))),.st [.ro false (di a),.ro false (di x_N),.ro false (.str x_S)]] = some (vi (inD ⟨a,x_N,x_S⟩ d 0),[]):=by
 refine Ga pf598 pb598 ?_
 unfold pb598
 refine Ua h ?_
 simp [pf598]

def preO {α:Type} (a:List α) (r:Option (List α)):Option (List α):=match r with
 | some l => some (a ++ l)
 | none => none
@[simp] theorem preO_none {α:Type} (a:List α):preO a none = none:=rfl
@[simp] theorem preO_some {α:Type} (a l:List α):preO a (some l) = some (a ++ l):=rfl
theorem preO_nil {α:Type} (r:Option (List α)):preO [] r = r:=by cases r <;> rfl

theorem placesF_neg {d l:List XVal} {a:List Int} {v:XVal} (h:inD v d 0 < 0):preO a (placesF d (v :: l)) = none:=by
 simp only [placesF]; rw [if_pos h]; try rfl

theorem placesF_pos {d l:List XVal} {a:List Int} {v:XVal} (h:¬ inD v d 0 < 0):preO a (placesF d (v :: l)) = preO (a ++ [inD v d 0]) (placesF d l):=by
 simp only [placesF]; rw [if_neg h]
 cases placesF d l with
 | none => rfl
 | some p => simp [preO]

@[simp] theorem t585 (k0 k1:Bool) (d l:List XVal) (h:d.length≤1048576) (h2:l.length≤1048576):Gw TT 585 [.one (.ro k0 (.sl 3 (d.map XVal.e))),.one (.ro k1 (.sl 3 (l.map XVal.e)))] = some (olV (placesF d l),[]):=by
 refine Ga pf585 pb585 ?_
 unfold pb585
 refine Ua Oo ?_
 refine wp_loopI (σ:=List XVal × List XVal × List Int) (fun s => [(0,AV.v k0 (D.sl 3 (d.map XVal.e)),none),(6,AV.pl 6 0 [],some (Rt.vir [C.own (D.sl 1 ((s.2.2).map ei))])),(11,AV.v k1 (D.sl 3 (l.map XVal.e)),none),(12,AV.v false (di (l.length:Nat)),none),(13,AV.v false (di ((s.1.length:Nat):Int)),none)]) (fun s => l = s.1 ++ s.2.1∧placesF d l = preO s.2.2 (placesF d s.2.1)∧s.2.2.length≤s.1.length) (fun s => s.2.1.length) ([],l,[]) (by simp) ⟨rfl,by rw [preO_nil],by simp⟩ ?_
 rintro ⟨pre,rest,a⟩ ⟨y1,y2,y4⟩
 simp only at y1 y2 y4
 have y3:l.length = pre.length + rest.length:=by rw [y1,List.length_append]
 rcases rest with _ | ⟨⟨dT,dN,dS⟩,rest⟩
 ·simp only [List.length_nil] at y3
  simp only [placesF,preO_some,List.append_nil] at y2
  have c1:¬ (pre.length:Int) < (l.length:Int):=by omega
  unfold pl585_0
  refine Ua (J2 c1 y2) ?_
  simp [pf585,y2]
 ·simp only [List.length_cons] at y3
  have hg:l[pre.length]? = some ⟨dT,dN,dS⟩:=by rw [y1]; simp
  obtain ⟨hlt,hge⟩:=List.getElem?_eq_some_iff.1 hg
  have c1:(pre.length:Int) < (l.length:Int):=by omega
  have hw:=Wi ((pre.length:Int) + 1)
  have hq:(a.length + 1) * 8≤70368744177664:=by omega
  unfold pl585_0
  by_cases q:inD ⟨dT,dN,dS⟩ d 0 < 0
  ·rw [placesF_neg q] at y2
   refine Ua (J8 hg hge hlt c1 hw h q y2) ?_
   simp [pf585,y2]
  ·rw [placesF_pos q] at y2
   refine Ua (J8 hg hge hlt c1 hw h q hq) ?_
   exact ⟨(pre ++ [⟨dT,dN,dS⟩],rest,a ++ [inD ⟨dT,dN,dS⟩ d 0]),(by simp; try omega),⟨by rw [y1]; simp,y2,by simp; omega⟩,by simp⟩

@[simp] theorem t573 (k0 k1:Bool) (d l:List XVal) (h:d.length≤1048576) (h2:l.length≤1048576):Gw TT 573 [.one (.ro k0 (.sl 3 (d.map XVal.e))),.one (.ro k1 (.sl 3 (l.map XVal.e)))] = some (olV (placesF d l),[]):=by
 refine Ga pf573 pb573 ?_
 unfold pb573
 refine Ua Oo ?_
 refine wp_loopI (σ:=List XVal × List XVal × List Int) (fun s => [(0,AV.v k0 (D.sl 3 (d.map XVal.e)),none),(1,AV.v k1 (D.sl 3 (l.map XVal.e)),none),(6,AV.pl 6 0 [],some (Rt.vir [C.own (D.sl 1 ((s.2.2).map ei))])),(7,AV.v false (di ((s.1.length:Nat):Int)),none)]) (fun s => l = s.1 ++ s.2.1∧placesF d l = preO s.2.2 (placesF d s.2.1)∧s.2.2.length≤s.1.length) (fun s => s.2.1.length) ([],l,[]) (by simp) ⟨rfl,by rw [preO_nil],by simp⟩ ?_
 rintro ⟨pre,rest,a⟩ ⟨y1,y2,y4⟩
 simp only at y1 y2 y4
 have y3:l.length = pre.length + rest.length:=by rw [y1,List.length_append]
 rcases rest with _ | ⟨⟨dT,dN,dS⟩,rest⟩
 ·simp only [List.length_nil] at y3
  simp only [placesF,preO_some,List.append_nil] at y2
  have c1:¬ (pre.length:Int) < (l.length:Int):=by omega
  unfold pl573_0
  refine Ua (J2 c1 y2) ?_
  simp [pf573,y2]
 ·simp only [List.length_cons] at y3
  have hg:l[pre.length]? = some ⟨dT,dN,dS⟩:=by rw [y1]; simp
  obtain ⟨hlt,hge⟩:=List.getElem?_eq_some_iff.1 hg
  have c1:(pre.length:Int) < (l.length:Int):=by omega
  have hw:=Wi ((pre.length:Int) + 1)
  have hq:(a.length + 1) * 8≤70368744177664:=by omega
  unfold pl573_0
  by_cases q:inD ⟨dT,dN,dS⟩ d 0 < 0
  ·rw [placesF_neg q] at y2
   refine Ua (J8 hg hge hlt c1 hw h q y2) ?_
   simp [pf573,y2]
  ·rw [placesF_pos q] at y2
   refine Ua (J8 hg hge hlt c1 hw h q hq) ?_
   exact ⟨(pre ++ [⟨dT,dN,dS⟩],rest,a ++ [inD ⟨dT,dN,dS⟩ d 0]),(by simp; try omega),⟨by rw [y1]; simp,y2,by simp; omega⟩,by simp⟩

theorem pickF_no {d:List XVal} {l:List Int} {a:List XVal} {i:Int} (h:¬ (0≤i∧i < (d.length:Int))):preO a (pickF d (i :: l)) = none:=by
 simp only [pickF]
 split
 ·rw [List.getElem?_eq_none (by omega)]; try rfl
 ·rfl

theorem pickF_yes {d:List XVal} {l:List Int} {a:List XVal} {i:Nat} {v:XVal} (h:d[i]? = some v):preO a (pickF d ((i:Int) :: l)) = preO (a ++ [v]) (pickF d l):=by
 simp only [pickF]
 rw [if_pos (by omega),show ((i:Int)).toNat = i by omega,h]
 simp only
 cases pickF d l with
 | none => rfl
 | some p => simp [preO]

@[simp] theorem t556 (k0 k1:Bool) (d:List XVal) (l:List Int) (h:d.length≤1048576) (h2:l.length≤1048576):Gw TT 556 [.one (.ro k0 (.sl 3 (d.map XVal.e))),.one (.ro k1 (.sl 1 (l.map ei)))] = some (odV (pickF d l),[]):=by
 refine Ga pf556 pb556 ?_
 unfold pb556
 refine Ud Oo ?_
 refine wp_loopI (σ:=List Int × List Int × List XVal) (fun s => [(0,AV.v k0 (D.sl 3 (d.map XVal.e)),none),(6,AV.pl 6 0 [],some (Rt.vir [C.own (D.sl 3 ((s.2.2).map XVal.e))])),(10,AV.v k1 (D.sl 1 (l.map ei)),none),(11,AV.v false (di (l.length:Nat)),none),(12,AV.v false (di ((s.1.length:Nat):Int)),none)]) (fun s => l = s.1 ++ s.2.1∧pickF d l = preO s.2.2 (pickF d s.2.1)∧s.2.2.length≤s.1.length) (fun s => s.2.1.length) ([],l,[]) (by simp) ⟨rfl,by rw [preO_nil],by simp⟩ ?_
 rintro ⟨pre,rest,a⟩ ⟨y1,y2,y4⟩
 simp only at y1 y2 y4
 have y3:l.length = pre.length + rest.length:=by rw [y1,List.length_append]
 rcases rest with _ | ⟨i,rest⟩
 ·simp only [List.length_nil] at y3
  simp only [pickF,preO_some,List.append_nil] at y2
  have c1:¬ (pre.length:Int) < (l.length:Int):=by omega
  unfold pl556_0
  refine Ud (J2 c1 y2) ?_
  simp [pf556,y2]
 ·simp only [List.length_cons] at y3
  have hg:l[pre.length]? = some i:=by rw [y1]; simp
  obtain ⟨hlt,hge⟩:=List.getElem?_eq_some_iff.1 hg
  have c1:(pre.length:Int) < (l.length:Int):=by omega
  have hw:=Wi ((pre.length:Int) + 1)
  have hw2:=Wi ((d.length:Int) - 1)
  have hq:(a.length + 1) * 32≤70368744177664:=by omega
  unfold pl556_0
  by_cases q:0≤i∧i < (d.length:Int)
  ·obtain ⟨m,rfl⟩:=Int.eq_ofNat_of_zero_le q.1
   have hm:m < d.length:=by omega
   obtain ⟨⟨dT,dN,dS⟩,hv⟩:∃ v,d[m]? = some v:=⟨_,List.getElem?_eq_getElem hm⟩
   have hve:=(List.getElem?_eq_some_iff.1 hv).2
   rw [pickF_yes hv] at y2
   have p1:¬ (d.length:Int)≤(m:Int):=by omega
   have p2:(m:Int)≤(d.length:Int) - 1:=by omega
   have p3:(m:Int) < (d.length:Int):=by omega
   refine Ud (J8 hg hge hlt c1 hw hw2 hq (J6 hm hv hve p1 p2 p3)) ?_
   repeat intro hc
   exact ⟨(pre ++ [(m:Int)],rest,a ++ [⟨dT,dN,dS⟩]),(by simp; try omega),⟨by rw [y1]; simp,y2,by simp; omega⟩,by simp⟩
  ·rw [pickF_no q] at y2
   by_cases q2:0≤i
   ·have p1:(d.length:Int)≤i:=by omega
    have p2:¬ i≤(d.length:Int) - 1:=by omega
    refine Ud (J8 hg hge hlt c1 hw hw2 h (J4 q2 p1 p2 y2)) ?_
    repeat intro hc
    simp [pf556,y2]
   ·have p1:i < 0:=by omega
    refine Ud (J8 hg hge hlt c1 hw hw2 h (J3 q2 p1 y2)) ?_
    simp [pf556,y2]

@[simp] theorem t543 (k0 k1:Bool) (d:List XVal) (l:List Int) (h:d.length≤1048576) (h2:l.length≤1048576):Gw TT 543 [.one (.ro k0 (.sl 3 (d.map XVal.e))),.one (.ro k1 (.sl 1 (l.map ei)))] = some (odV (pickF d l),[]):=by
 refine Ga pf543 pb543 ?_
 unfold pb543
 refine Ua Oo ?_
 refine wp_loopI (σ:=List Int × List Int × List XVal) (fun s => [(0,AV.v k0 (D.sl 3 (d.map XVal.e)),none),(1,AV.v k1 (D.sl 1 (l.map ei)),none),(6,AV.pl 6 0 [],some (Rt.vir [C.own (D.sl 3 ((s.2.2).map XVal.e))])),(7,AV.v false (di ((s.1.length:Nat):Int)),none)]) (fun s => l = s.1 ++ s.2.1∧pickF d l = preO s.2.2 (pickF d s.2.1)∧s.2.2.length≤s.1.length) (fun s => s.2.1.length) ([],l,[]) (by simp) ⟨rfl,by rw [preO_nil],by simp⟩ ?_
 rintro ⟨pre,rest,a⟩ ⟨y1,y2,y4⟩
 simp only at y1 y2 y4
 have y3:l.length = pre.length + rest.length:=by rw [y1,List.length_append]
 rcases rest with _ | ⟨i,rest⟩
 ·simp only [List.length_nil] at y3
  simp only [pickF,preO_some,List.append_nil] at y2
  have c1:¬ (pre.length:Int) < (l.length:Int):=by omega
  unfold pl543_0
  refine Ua (J2 c1 y2) ?_
  simp [pf543,y2]
 ·simp only [List.length_cons] at y3
  have hg:l[pre.length]? = some i:=by rw [y1]; simp
  obtain ⟨hlt,hge⟩:=List.getElem?_eq_some_iff.1 hg
  have c1:(pre.length:Int) < (l.length:Int):=by omega
  have hw:=Wi ((pre.length:Int) + 1)
  have hw2:=Wi ((d.length:Int) - 1)
  have hq:(a.length + 1) * 32≤70368744177664:=by omega
  unfold pl543_0
  by_cases q:0≤i∧i < (d.length:Int)
  ·obtain ⟨m,rfl⟩:=Int.eq_ofNat_of_zero_le q.1
   have hm:m < d.length:=by omega
   obtain ⟨⟨dT,dN,dS⟩,hv⟩:∃ v,d[m]? = some v:=⟨_,List.getElem?_eq_getElem hm⟩
   have hve:=(List.getElem?_eq_some_iff.1 hv).2
   rw [pickF_yes hv] at y2
   have p1:¬ (d.length:Int)≤(m:Int):=by omega
   have p2:(m:Int)≤(d.length:Int) - 1:=by omega
   have p3:(m:Int) < (d.length:Int):=by omega
   refine Ua (J8 hg hge hlt c1 hw hw2 hq (J6 hm hv hve p1 p2 p3)) ?_
   exact ⟨(pre ++ [(m:Int)],rest,a ++ [⟨dT,dN,dS⟩]),(by simp; try omega),⟨by rw [y1]; simp,y2,by simp; omega⟩,by simp⟩
  ·rw [pickF_no q] at y2
   by_cases q2:0≤i
   ·have p1:(d.length:Int)≤i:=by omega
    have p2:¬ i≤(d.length:Int) - 1:=by omega
    refine Ua (J8 hg hge hlt c1 hw hw2 h (J4 q2 p1 p2 y2)) ?_
    simp [pf543,y2]
   ·have p1:i < 0:=by omega
    refine Ua (J8 hg hge hlt c1 hw hw2 h (J3 q2 p1 y2)) ?_
    simp [pf543,y2]

theorem sortD_map (l:List XVal):sortD (l.map XVal.e) = (sortV l).map XVal.e:=by
 unfold sortD sortV
 rw [List.map_mergeSort (s:=fun x y => !lessD y x)]
 intro a _ b _
 rfl

theorem valD_map (l:List XVal):(l.map XVal.e).all valD = true:=by
 rw [List.all_eq_true]
 intro x hx
 obtain ⟨v,_,rfl⟩:=List.mem_map.1 hx
 rfl

@[simp] theorem t595 (k0:Bool) (l:List XVal) (h:l.length≤1048576):Gw TT 595 [.one (.own (.sl 3 (l.map XVal.e))),.one (.ro k0 (.fn 596 []))] = some (.tup [],[(0,0,.own (.sl 3 ((sortV l).map XVal.e)))]):=by
 refine Ga pf595 pb595 ?_
 unfold pb595
 have hL:initAL 0 [.one (.own (.sl 3 (l.map XVal.e))),.one (.ro k0 (.fn 596 []))] = [(0,.pl 0 0 [],some (.vir [.own (.sl 3 (l.map XVal.e))])),(1,.v k0 (.fn 596 []),none)]:=by simp
 rw [hL]
 have hlen:(l.map XVal.e).length < 4611686018427387904:=by simp; omega
 refine wp_ext (L':=[(0,.pl 0 0 [],some (.vir [.own (.sl 3 ((sortV l).map XVal.e))])),(1,.v k0 (.fn 596 []),none)]) ?_ ?_ ?_
 ·simp only [sortCalls]
  rw [if_pos ⟨valD_map l,hlen⟩]
  intro c hc
  obtain ⟨x,hx,hc⟩:=List.mem_flatMap.1 hc
  obtain ⟨y,hy,rfl⟩:=List.mem_map.1 hc
  obtain ⟨⟨a,b,s⟩,_,rfl⟩:=List.mem_map.1 hx
  obtain ⟨⟨a',b',s'⟩,_,rfl⟩:=List.mem_map.1 hy
  exact t596 a b s a' b' s'
 ·simp only [sortF,sortD_map]
 ·simp [endQ,finish,pf595,out?,outVs,outUps,upsOf]

theorem insV_at {v:XVal}:∀ {A B:List XVal},(∀ x ∈ A,ltV x v = true)→insV v (A ++ B) = A ++ insV v B
 | [],B,_ => rfl
 | x :: A,B,h => by
  simp only [List.cons_append,insV]
  rw [if_pos (h x (by simp)),insV_at (fun y hy => h y (by simp [hy]))]

theorem take_mapA {α:Type} (f:α→List D) (A:List α) (L:List (List D)):List.take A.length (List.map f A ++ L) = List.map f A:=by
 have:A.length = (List.map f A).length:=by simp
 rw [this,List.take_left]
theorem drop_mapA {α:Type} (f:α→List D) (A:List α) (L:List (List D)):List.drop A.length (List.map f A ++ L) = L:=by
 have:A.length = (List.map f A).length:=by simp
 rw [this,List.drop_left]
theorem take_mapB {α:Type} (f:α→List D) (A B:List α):List.take (A.length + B.length) (List.map f A ++ List.map f B) = List.map f A ++ List.map f B:=by
 rw [List.take_of_length_le (by simp)]

@[simp] theorem t572 (k0:Bool) (l:List XVal) (h:l.length≤1048576):Gw TT 572 [.one (.ro k0 (.sl 3 (l.map XVal.e)))] = some (.one (.own (.sl 3 ((dictF l).map XVal.e))),[]):=by
 refine Ga pf572 pb572 ?_
 unfold pb572
 refine Ua Oo ?_
 refine wp_loopI (σ:=List XVal × List XVal × List XVal) (fun s => [(0,AV.v k0 (D.sl 3 (l.map XVal.e)),none),(3,AV.pl 3 0 [],some (Rt.vir [C.own (D.sl 3 ((s.2.2).map XVal.e))])),(4,AV.v false (di ((s.1.length:Nat):Int)),none)]) (fun s => l = s.1 ++ s.2.1∧dictF l = dictG s.2.2 s.2.1∧s.2.2.length≤s.1.length) (fun s => s.2.1.length) ([],l,[]) (by simp) ⟨rfl,rfl,by simp⟩ ?_
 rintro ⟨pre,rest,o⟩ ⟨y1,y2,y4⟩
 simp only at y1 y2 y4
 have y3:l.length = pre.length + rest.length:=by rw [y1,List.length_append]
 rcases rest with _ | ⟨⟨dT,dN,dS⟩,rest⟩
 ·simp only [List.length_nil] at y3
  simp only [dictG] at y2
  have c1:¬ (pre.length:Int) < (l.length:Int):=by omega
  unfold pl572_1
  refine Ua (J2 c1 y2) ?_
  simp [pf572,y2]
 ·simp only [List.length_cons] at y3
  simp only [dictG] at y2
  have hg:l[pre.length]? = some ⟨dT,dN,dS⟩:=by rw [y1]; simp
  obtain ⟨hlt,hge⟩:=List.getElem?_eq_some_iff.1 hg
  have c1:(pre.length:Int) < (l.length:Int):=by omega
  have hw:=Wi ((pre.length:Int) + 1)
  have hil:=insV_len ⟨dT,dN,dS⟩ o
  unfold pl572_1
  refine Ua (J5 hg hge hlt c1 hw) ?_
  refine wp_loopI (σ:=List XVal × List XVal) (fun s => [(0,AV.v k0 (D.sl 3 (l.map XVal.e)),none),(3,AV.pl 3 0 [],some (Rt.vir [C.own (D.sl 3 ((o).map XVal.e))])),(4,AV.v false (di ((pre.length:Nat):Int)),none),(5,AV.v false (di ((s.1.length:Nat):Int)),none)]) (fun s => o = s.1 ++ s.2∧∀ x ∈ s.1,ltV x ⟨dT,dN,dS⟩ = true) (fun s => s.2.length) ([],o) (by simp) ⟨rfl,by simp⟩ ?_
  rintro ⟨A,B⟩ ⟨z1,z2⟩
  simp only at z1 z2
  have hins:insV ⟨dT,dN,dS⟩ o = A ++ insV ⟨dT,dN,dS⟩ B:=by rw [z1]; exact insV_at z2
  have hol:o.length = A.length + B.length:=by rw [z1,List.length_append]
  have hq1:A.length * 32≤70368744177664:=by omega
  have hq2:(A.length + 1) * 32≤70368744177664:=by omega
  have hq3:(A.length + 1 + B.length) * 32≤70368744177664:=by omega
  have hfA:flatD (List.map XVal.e A) = true:=flatD_map _ _ (fun x => rfl)
  have hfB:flatD (List.map XVal.e B) = true:=flatD_map _ _ (fun x => rfl)
  rcases B with _ | ⟨⟨bT,bN,bS⟩,B⟩
  ·have c2:¬ (A.length:Int) < (o.length:Int):=by simp at hol; omega
   have c3:(A.length:Int) = (o.length:Int):=by simp at hol; omega
   have hAo:A.length = o.length:=by simp at hol; omega
   have hAe:o = A:=by simpa using z1
   subst hAe
   simp only [insV] at hins
   rw [hins] at y2
   have hTo:List.take o.length (List.map XVal.e o) = List.map XVal.e o:=List.take_of_length_le (by simp)
   have hDo:List.drop o.length (List.map XVal.e o) = []:=List.drop_of_length_le (by simp)
   unfold pl572_0
   refine Ua (J8 c1 hg hge hlt hw hq1 hq2 (J3 hfA hTo hDo)) ?_
   exact ⟨(pre ++ [⟨dT,dN,dS⟩],rest,o ++ [⟨dT,dN,dS⟩]),(by simp; try omega),⟨by rw [y1]; simp,y2,by simp; omega⟩,by simp⟩
  ·have hgb:o[A.length]? = some ⟨bT,bN,bS⟩:=by rw [z1]; simp
   obtain ⟨hltb,hgeb⟩:=List.getElem?_eq_some_iff.1 hgb
   have c2:(A.length:Int) < (o.length:Int):=by omega
   have c3:¬ (A.length:Int) = (o.length:Int):=by omega
   have hwA:=Wi ((A.length:Int) + 1)
   cases hlv:ltVF bT bN bS dT dN dS with
   | true =>
    unfold pl572_0
    refine Ua (J8 c1 hg hge hlt hw c2 hgb (J4 hgeb hltb hwA hlv)) ?_
    all_goals first | exact ⟨(A ++ [⟨bT,bN,bS⟩],B),(by simp; try omega),⟨by rw [z1]; simp,fun x hx => by
      rcases List.mem_append.1 hx with hx | hx
      ·exact z2 x hx
      ·simp at hx; subst hx; exact hlv⟩,by simp⟩ | (exfalso; omega)
   | false =>
    have hlt2:¬ ltV ⟨bT,bN,bS⟩ ⟨dT,dN,dS⟩ = true:=by simp only [ltV]; rw [hlv]; simp
    simp only [insV] at hins
    rw [if_neg hlt2] at hins
    cases hv:valEq ⟨bT,bN,bS⟩ ⟨dT,dN,dS⟩ with
    | true =>
     rw [if_pos hv,← z1] at hins
     rw [hins] at y2
     have e:=valEq_iff.1 hv
     simp only [XVal.mk.injEq] at e
     obtain ⟨rfl,rfl,rfl⟩:=e
     unfold pl572_0
     refine Ua (J8 c1 hg hge hlt hw c2 c3 (J4 hgb hgeb hltb hlv)) ?_
     exact ⟨(pre ++ [⟨bT,bN,bS⟩],rest,o),(by simp; try omega),⟨by rw [y1]; simp,y2,by simp; omega⟩,by simp⟩
    | false =>
     rw [if_neg (by rw [hv]; simp)] at hins
     rw [hins] at y2
     have hb:(bT == dT && (bN == dN && bS.toList == dS.toList)) = false:=hv
     have hT:List.take A.length (List.map XVal.e o) = List.map XVal.e A:=by rw [z1,List.map_append]; exact take_mapA _ _ _
     have hD:List.drop A.length (List.map XVal.e o) = List.map XVal.e (⟨bT,bN,bS⟩ :: B):=by rw [z1,List.map_append]; exact drop_mapA _ _ _
     have hTo:List.take o.length (List.map XVal.e o) = List.map XVal.e o:=List.take_of_length_le (by simp)
     have hAo:A.length≤o.length:=by omega
     simp only [List.length_cons] at hq3
     unfold pl572_0
     refine Ua (J8 c1 hg hge hlt hw c2 c3 (J8 hgb hgeb hltb hlv hb hT hD (J7 hTo hAo hq1 hq2 hq3 hfA hfB))) ?_
     exact ⟨(pre ++ [⟨dT,dN,dS⟩],rest,A ++ ⟨dT,dN,dS⟩ :: ⟨bT,bN,bS⟩ :: B),(by simp; try omega),⟨by rw [y1]; simp,y2,by simp at *; omega⟩,by simp⟩

theorem take_mapC {α:Type} (f:α→List D) (A:List α) (L:List (List D)):List.take A.length (List.map f A ++ L) = List.map f A:=by
 have:A.length = (List.map f A).length:=by simp
 rw [this,List.take_left]

theorem get_two {α:Type} (A:List α) (x:α) (B:List α):(A ++ x :: B)[A.length]? = some x:=by simp

theorem cmp_set (W G:List XVal) (p v:XVal) (r:List XVal) (g:XVal) (G1:List XVal) (h:G ++ [p] = g :: G1):(W ++ [p] ++ G ++ [p] ++ v :: r).set (W.length + 1) v = (W ++ [p]) ++ [v] ++ G1 ++ v :: r:=by
 have e:W ++ [p] ++ G ++ [p] ++ v :: r = (W ++ [p]) ++ g :: (G1 ++ v :: r):=by
  rw [show W ++ [p] ++ G ++ [p] ++ v :: r = (W ++ [p]) ++ ((G ++ [p]) ++ v :: r) by simp [List.append_assoc],h]; try rfl
 rw [e]
 have hl:(W ++ [p]).length = W.length + 1:=by simp
 rw [← hl,List.set_append_right _ _ (Nat.le_refl _)]
 simp

@[simp] theorem t597 (l:List XVal) (h:l.length≤1048576):Gw TT 597 [.one (.own (.sl 3 (l.map XVal.e)))] = some (.one (.own (.sl 3 ((compF l).map XVal.e))),[(0,0,.own .dead)]):=by
 refine Ga pf597 pb597 ?_
 unfold pb597
 by_cases q:l.length < 2
 ·have hcl:compF l = l:=by
   rcases l with _ | ⟨x,l⟩
   ·rfl
   ·rcases l with _ | ⟨y,l⟩
    ·rfl
    ·simp at q; omega
  have q1:(l.length:Int) < 2:=by omega
  refine Ua (J2 q1 hcl) ?_
  simp [pf597,hcl]
 ·have q1:¬ (l.length:Int) < 2:=by omega
  refine Ua q1 ?_
  refine wp_loopI (σ:=List XVal × (XVal × List XVal)) (fun s => [(0,AV.pl 0 0 [],some (Rt.vir [C.own (D.sl 3 (l.map XVal.e))])),(3,AV.v false (di (((s.1.length:Nat):Int) + 1)),none)]) (fun s => l = s.1 ++ s.2.1 :: s.2.2∧compF l = s.1 ++ compG s.2.1 s.2.2) (fun s => s.2.2.length) ([],(l.headD default,l.tail)) (by simp) (by
   rcases l with _ | ⟨x,l⟩
   ·simp at q
   ·exact ⟨rfl,rfl⟩) ?_
  rintro ⟨P,⟨⟨xT,xN,xS⟩,rest⟩⟩ ⟨y1,y2⟩
  simp only at y1 y2
  have y3:l.length = P.length + (rest.length + 1):=by rw [y1]; simp
  rcases rest with _ | ⟨⟨dT,dN,dS⟩,rest⟩
  ·simp only [List.length_nil] at y3
   have hcl:compF l = l:=by rw [y2,y1]; try rfl
   have c1:¬ (P.length:Int) + 1 < (l.length:Int):=by omega
   unfold pl597_1
   refine Ua (J2 c1 hcl) ?_
   simp [pf597,hcl]
  ·simp only [List.length_cons] at y3
   simp only [compG] at y2
   have c1:(P.length:Int) + 1 < (l.length:Int):=by omega
   have hg0:l[P.length]? = some ⟨xT,xN,xS⟩:=by rw [y1]; simp
   obtain ⟨hlt0,hge0⟩:=List.getElem?_eq_some_iff.1 hg0
   have hg1:l[P.length + 1]? = some ⟨dT,dN,dS⟩:=by rw [y1]; simp
   obtain ⟨hlt1,hge1⟩:=List.getElem?_eq_some_iff.1 hg1
   have hw1:=Wi ((P.length:Int) + 1 + 1)
   have hw0:IntKind.wrap .i64 (P.length:Int) = (P.length:Int):=wrap_i64 (by omega) (by omega)
   have hn1:((P.length:Int) + 1).toNat = P.length + 1:=by omega
   have hn0:(0:Int)≤(P.length:Int) + 1:=by omega
   have hn2:(P.length:Int) < (l.length:Int):=by omega
   have hn3:(P.length:Int) + 1≤(l.length:Int):=by omega
   have hn4:P.length + 1≤l.length:=by omega
   cases hv:valEq ⟨dT,dN,dS⟩ ⟨xT,xN,xS⟩ with
   | false =>
    rw [if_neg (by rw [hv]; simp)] at y2
    have hb:(dT == xT && (dN == xN && dS.toList == xS.toList)) = false:=hv
    unfold pl597_1
    refine Ua (J8 c1 hg0 hlt0 hge0 hg1 hlt1 hge1 (J7 hw1 hw0 hn1 hn0 hn2 hb @Int.add_sub_cancel)) ?_
    exact ⟨(P ++ [⟨xT,xN,xS⟩],(⟨dT,dN,dS⟩,rest)),(by simp; try omega),⟨by rw [y1]; simp,by rw [y2]; simp⟩,by simp⟩
   | true =>
    rw [if_pos hv] at y2
    have e:=valEq_iff.1 hv
    simp only [XVal.mk.injEq] at e
    obtain ⟨rfl,rfl,rfl⟩:=e
    unfold pl597_1
    refine Ua (J8 c1 hg0 hlt0 hge0 hg1 hlt1 hge1 (J8 hw1 hw0 hn1 hn0 hn2 hn3 hn4 @Int.add_sub_cancel)) ?_
    refine wp_loopI (σ:=List XVal × (List XVal × (XVal × List XVal))) (fun s => [(0,AV.pl 0 0 [],some (Rt.vir [C.own (D.sl 3 ((s.1 ++ [s.2.2.1] ++ s.2.1 ++ [s.2.2.1] ++ s.2.2.2).map XVal.e))])),(3,AV.v false (di (((s.1.length:Nat):Int) + 1)),none),(4,AV.rg 0 0 [] 3 (P.length + 1) l.length,none),(5,AV.v false (di ((s.1.length + 1 + s.2.1.length + 1 - (P.length + 1):Nat):Int)),none)]) (fun s => l.length = (s.1 ++ [s.2.2.1] ++ s.2.1 ++ [s.2.2.1] ++ s.2.2.2).length∧P.length≤s.1.length∧compF l = s.1 ++ compG s.2.2.1 s.2.2.2) (fun s => s.2.2.2.length) (P,([],(⟨dT,dN,dS⟩,rest))) (by simp [y1]; try omega) ⟨by simp [y1],Nat.le_refl _,y2⟩ ?_
    clear hg0 hlt0 hge0 hg1 hlt1 hge1 hv hw1 hn1 hn0
    rintro ⟨W,⟨G,⟨⟨pT,pN,pS⟩,r⟩⟩⟩ ⟨z1,z2,z3⟩
    dsimp only at z1 z2 z3 ⊢
    obtain ⟨M,hM⟩:∃ M,M = W ++ [⟨pT,pN,pS⟩] ++ G ++ [⟨pT,pN,pS⟩] ++ r:=⟨_,rfl⟩
    rw [← hM] at z1 ⊢
    have hMl:M.length = W.length + 1 + G.length + 1 + r.length:=by rw [hM]; simp; omega
    obtain ⟨K,hK⟩:∃ K,W.length + 1 + G.length + 1 - (P.length + 1) = K + 1:=⟨W.length + G.length - P.length,by omega⟩
    rw [hK]
    have hPK:P.length + 1 + K = W.length + 1 + G.length:=by omega
    have hML:M.length = l.length:=z1.symm
    have m0:(0:Int)≤(W.length:Int) + 1:=by omega
    have m1:(W.length:Int) + 1≤(l.length:Int):=by omega
    have m2:((W.length:Int) + 1).toNat = W.length + 1:=by omega
    have m3:W.length + 1≤l.length:=by omega
    have m4:W.length + 1 < l.length:=by omega
    have m5:(W.length:Int) + 1 < (l.length:Int):=by omega
    have m6:((K:Int) + 1).toNat = K + 1:=by omega
    have m7:(0:Int)≤(K:Int) + 1:=by omega
    have m8:IntKind.wrap .i64 (K:Int) = (K:Int):=wrap_i64 (by omega) (by omega)
    have m9:=Wi ((K:Int) + 1 + 1)
    have m10:=Wi ((W.length:Int) + 1 + 1)
    have m11:P.length + 1≤l.length:=by omega
    have hTM:List.take l.length (List.map XVal.e M) = List.map XVal.e M:=List.take_of_length_le (by simp; omega)
    have hDM:List.drop l.length (List.map XVal.e M) = []:=List.drop_of_length_le (by simp; omega)
    have hTW:List.take (W.length + 1) (List.map XVal.e M) = List.map XVal.e (W ++ [⟨pT,pN,pS⟩]):=by
     rw [hM,List.append_assoc,List.append_assoc,List.map_append]
     have:=take_mapC XVal.e (W ++ [⟨pT,pN,pS⟩]) (List.map XVal.e (G ++ ([⟨pT,pN,pS⟩] ++ r)))
     rw [show (W ++ [(⟨pT,pN,pS⟩:XVal)]).length = W.length + 1 by simp] at this
     exact this
    rcases r with _ | ⟨⟨vT,vN,vS⟩,r⟩
    ·simp only [List.length_nil,Nat.add_zero] at hMl
     simp only [compG] at z3
     have d1:¬ (K:Int) + 1 < ((l.length - (P.length + 1):Nat):Int):=by omega
     have d2:W.length + 1 + (l.length - (W.length + 1)) = l.length:=by omega
     have hfl:flatD (List.drop (W.length + 1) (List.map XVal.e M)) = true:=flatD_drop_map _ _ _ (fun x => rfl)
     have d3:W.length + (l.length - (W.length + 1) + 1) = l.length:=by omega
     have hlast:List.take (W.length + 1) (List.map XVal.e W ++ [di pT,di pN,.str pS] :: List.replicate (l.length - (W.length + 1)) [di 0,di 0,.str ⟨#[]⟩]) = List.map XVal.e W ++ [[di pT,di pN,.str pS]]:=by
      have:=take_mapC XVal.e (W ++ [⟨pT,pN,pS⟩]) (List.replicate (l.length - (W.length + 1)) [di 0,di 0,.str ⟨#[]⟩])
      rw [show (W ++ [(⟨pT,pN,pS⟩:XVal)]).length = W.length + 1 by simp] at this
      simpa using this
     unfold pl597_0
     refine Ua (J8 hML hTM hDM hTW m0 m1 m2 (J8 m3 m4 m5 m6 m7 m8 m11 (J4 d1 d2 d3 hfl))) ?_
     simp [pf597,z3,hlast]
    ·simp only [List.length_cons] at hMl
     simp only [compG] at z3
     have d1:(K:Int) + 1 < ((l.length - (P.length + 1):Nat):Int):=by omega
     have hgp:M[P.length + 1 + K]? = some ⟨pT,pN,pS⟩:=by
      rw [hPK,hM,List.append_assoc _ [_] (_ :: r)]
      have:=get_two (W ++ [⟨pT,pN,pS⟩] ++ G) ⟨pT,pN,pS⟩ (⟨vT,vN,vS⟩ :: r)
      rw [show (W ++ [(⟨pT,pN,pS⟩:XVal)] ++ G).length = W.length + 1 + G.length by simp; omega] at this
      simpa using this
     have hgv:M[P.length + 1 + (K + 1)]? = some ⟨vT,vN,vS⟩:=by
      rw [← Nat.add_assoc,hPK,hM]
      have:=get_two (W ++ [⟨pT,pN,pS⟩] ++ G ++ [⟨pT,pN,pS⟩]) ⟨vT,vN,vS⟩ r
      rw [show (W ++ [(⟨pT,pN,pS⟩:XVal)] ++ G ++ [(⟨pT,pN,pS⟩:XVal)]).length = W.length + 1 + G.length + 1 by simp; omega] at this
      exact this
     obtain ⟨hpl,hpe⟩:=List.getElem?_eq_some_iff.1 hgp
     obtain ⟨hvl,hve⟩:=List.getElem?_eq_some_iff.1 hgv
     have hp2:P.length + 1 + K < l.length:=by omega
     have hv2:P.length + 1 + (K + 1) < l.length:=by omega
     have k1:(K:Int) < ((l.length - (P.length + 1):Nat):Int):=by omega
     cases hv:valEq ⟨vT,vN,vS⟩ ⟨pT,pN,pS⟩ with
     | true =>
      rw [if_pos hv] at z3
      have e:=valEq_iff.1 hv
      simp only [XVal.mk.injEq] at e
      obtain ⟨rfl,rfl,rfl⟩:=e
      have hM2:M = W ++ [⟨vT,vN,vS⟩] ++ (G ++ [⟨vT,vN,vS⟩]) ++ [⟨vT,vN,vS⟩] ++ r:=by rw [hM]; simp
      unfold pl597_0
      refine Ua (J8 hML hTM m0 m1 m2 m3 m4 (J8 m5 m6 m7 m8 m9 m11 d1 (J8 hgp hgv hpl hpe hvl hve hp2 (J3 hv2 k1 @Int.add_sub_cancel)))) ?_
      exact ⟨(W,(G ++ [⟨vT,vN,vS⟩],(⟨vT,vN,vS⟩,r))),(by rw [hM2]; simp; try omega),⟨by rw [← hM2]; exact z1,z2,z3⟩,by simp⟩
     | false =>
      rw [if_neg (by rw [hv]; simp)] at z3
      have hb:(vT == pT && (vN == pN && vS.toList == pS.toList)) = false:=hv
      obtain ⟨⟨gT,gN,gS⟩,G1,hG⟩:∃ g G1,G ++ [(⟨pT,pN,pS⟩:XVal)] = g :: G1:=by
       cases G with
       | nil => exact ⟨_,_,rfl⟩
       | cons g G => exact ⟨_,_,rfl⟩
      have hset:(List.map XVal.e M).set (W.length + 1) [di vT,di vN,.str vS] = List.map XVal.e ((W ++ [⟨pT,pN,pS⟩]) ++ [⟨vT,vN,vS⟩] ++ G1 ++ ⟨vT,vN,vS⟩ :: r):=by
       rw [← cmp_set W G ⟨pT,pN,pS⟩ ⟨vT,vN,vS⟩ r ⟨gT,gN,gS⟩ G1 hG,List.map_set,hM]; try rfl
      have hgg:M[W.length + 1]? = some ⟨gT,gN,gS⟩:=by
       rw [hM,show W ++ [(⟨pT,pN,pS⟩:XVal)] ++ G ++ [⟨pT,pN,pS⟩] ++ ⟨vT,vN,vS⟩ :: r = (W ++ [⟨pT,pN,pS⟩]) ++ ((G ++ [⟨pT,pN,pS⟩]) ++ ⟨vT,vN,vS⟩ :: r) by simp,hG]
       have:=get_two (W ++ [⟨pT,pN,pS⟩]) ⟨gT,gN,gS⟩ (G1 ++ ⟨vT,vN,vS⟩ :: r)
       rw [show (W ++ [(⟨pT,pN,pS⟩:XVal)]).length = W.length + 1 by simp] at this
       exact this
      obtain ⟨hgl,hge⟩:=List.getElem?_eq_some_iff.1 hgg
      have hG2:=congrArg List.length hG
      simp at hG2
      unfold pl597_0
      refine Ua (J8 hML hTM m0 m1 m2 m3 m4 (J8 m5 m6 m7 m8 m9 m10 m11 (J8 d1 hgp hgv hpl hpe hvl hve (J8 hp2 hv2 k1 hb hset hgg hgl (J2 hge @Int.add_sub_cancel))))) ?_
      exact ⟨(W ++ [⟨pT,pN,pS⟩],(G1,(⟨vT,vN,vS⟩,r))),(by simp; try omega),⟨by simp at *; omega,by simp; omega,by rw [z3]; simp⟩,by simp⟩

@[simp] theorem t584 (k0:Bool) (l:List XVal) (h:l.length≤1048576):Gw TT 584 [.one (.ro k0 (.sl 3 (l.map XVal.e)))] = some (.one (.own (.sl 3 ((dictF l).map XVal.e))),[]):=by
 refine Ga pf584 pb584 ?_
 unfold pb584
 have h1:(sortV l).length≤1048576:=by rw [sortV_len]; exact h
 have h2:=t597 (sortV l) h1
 rw [comp_sort] at h2
 refine Ua (J3 h h1 h2) ?_
 simp [pf584]

theorem inD_mem {v:XVal}:∀ {d:List XVal} {i:Int},0≤i→v ∈ d→0≤inD v d i
 | [],i,_,h => by simp at h
 | x :: d,i,hi,h => by
  simp only [inD]
  split
  ·exact hi
  ·rename_i hx
   rcases List.mem_cons.1 h with rfl | h
   ·exact absurd (valEq_iff.2 rfl) hx
   ·exact inD_mem (by omega) h

theorem placesF_all {d:List XVal}:∀ {l:List XVal},(∀ v ∈ l,v ∈ d)→∃ p,placesF d l = some p
 | [],_ => ⟨[],rfl⟩
 | v :: l,h => by
  obtain ⟨p,hp⟩:=placesF_all (l:=l) (fun x hx => h x (by simp [hx]))
  refine ⟨inD v d 0 :: p,?_⟩
  have:=inD_mem (i:=0) (by omega) (h v (by simp))
  simp only [placesF]
  rw [if_neg (by omega),hp]

@[simp] theorem t557 (k0:Bool) (l:List XVal) (h:l.length≤1048576) (hs:XVal.sms l):Gw TT 557 [.one (.ro k0 (.sl 3 (l.map XVal.e)))] = some (.one (.own (.sl 1 ((encD l).map eb))),[]):=by
 refine Ga pf557 pb557 ?_
 unfold pb557
 by_cases q:typF l = 0
 ·have he:encD l = []:=by simp [encD,q]
  refine Uw (J4 h hs q he) ?_
  simp [pf557,he]
 ·obtain ⟨q1,q2,_,_⟩:=typF_ne q
  have hm:∀ r ∈ dictF l,r.S.size≤6:=fun r hr => typF_sz q _ (dictF_mem.1 hr)
  have hrl:=dictF_len l
  obtain ⟨p,hp⟩:=placesF_all (d:=dictF l) (l:=l) (fun v hv => dictF_mem.2 hv)
  have hpl:=placesF_len (dictF l) hp
  have hpd:placesD (dictF l) l = p:=by simp [placesD,hp]
  have he:encD l = encN (dictF l).length ++ encVs (dictF l) ++ packF p (widI ((dictF l).length - 1)):=by simp [encD,q,hpd]
  obtain ⟨R,hR⟩:∃ R,R = dictF l:=⟨_,rfl⟩
  rw [← hR] at he hm hrl hp
  have hn:=encN_len (R.length:Int)
  have hR2:R.length≤1048576:=by omega
  have hp2:p.length≤1048576:=by omega
  have hpk:=packF_len p (widI ((R.length:Int) - 1))
  have hwR:=Wi ((R.length:Int) - 1)
  obtain ⟨pk,hpke⟩:∃ pk,pk = packF p (widI ((R.length:Int) - 1)):=⟨_,rfl⟩
  rw [← hpke] at he hpk
  repeat' first|refine Zs ?_|((with_reducible refine Xk fun K k=>?_);simp [h,hs,q,← hR,hR2,hp];refine k _ ?_;clear k K)|refine Xt rfl ?_|refine Xf rfl ?_|(refine We rfl ?_ ?_<;>(intro hc;(try simp at hc);(all_goals first|(exfalso;omega)|skip)))
  refine wp_loopI (σ:=List XVal × List XVal × List Int) (fun s => [(0,AV.v k0 (D.sl 3 (l.map XVal.e)),none),(3,AV.pl 3 0 [],some (Rt.vir [C.own (D.sl 1 ((s.2.2).map eb))])),(4,AV.pl 4 0 [],some (Rt.vir [C.own (D.sl 3 (R.map XVal.e))])),(20,AV.pl 4 0 [],none),(21,AV.v false (di (R.length:Nat)),none),(22,AV.v false (di ((s.1.length:Nat):Int)),none)]) (fun s => R = s.1 ++ s.2.1∧s.2.2 ++ encVs s.2.1 = encN R.length ++ encVs R∧s.2.2.length≤5 + 7 * s.1.length) (fun s => s.2.1.length) ([],R,encN R.length) (by simp) ⟨rfl,rfl,by simp; omega⟩ ?_
  rintro ⟨pre,rest,a⟩ ⟨y1,y2,y4⟩
  simp only at y1 y2 y4
  have y3:R.length = pre.length + rest.length:=by rw [y1,List.length_append]
  rcases rest with _ | ⟨⟨dT,dN,dS⟩,rest⟩
  ·simp only [List.length_nil] at y3
   simp only [encVs,List.flatMap_nil,List.append_nil] at y2
   have c1:¬ (pre.length:Int) < (R.length:Int):=by omega
   have he2:encD l = a ++ pk:=by rw [he,y2]; try rfl
   have ha:(a.length + pk.length) * 1≤70368744177664:=by omega
   have ha2:a.length + pk.length≤70368744177664:=by omega
   unfold pl557_0
   repeat' first|refine Zs ?_|((with_reducible refine Xk fun K k=>?_);simp [c1,hp,hp2,h,hR2,hwR,← hpke,ha,ha2];refine k _ ?_;clear k K)|refine Xt rfl ?_|refine Xf rfl ?_|(refine We rfl ?_ ?_<;>(intro hc;(try simp at hc);(all_goals first|(exfalso;omega)|skip)))
   simp [pf557,he2]
  ·simp only [List.length_cons] at y3
   have hd:=hm ⟨dT,dN,dS⟩ (by rw [y1]; simp)
   simp only at hd
   have hd2:dS.size≤1048576:=by omega
   have hg:R[pre.length]? = some ⟨dT,dN,dS⟩:=by rw [y1]; simp
   obtain ⟨hlt,hge⟩:=List.getElem?_eq_some_iff.1 hg
   have c1:(pre.length:Int) < (R.length:Int):=by omega
   have hw:=Wi ((pre.length:Int) + 1)
   have hpv:=putV_len ⟨dT,dN,dS⟩
   have ha:a.length≤1048000:=by omega
   unfold pl557_0
   refine Uw (J7 hg hge hlt c1 hw hd2 ha) ?_
   exact ⟨(pre ++ [⟨dT,dN,dS⟩],rest,a ++ putV ⟨dT,dN,dS⟩),(by simp; try omega),⟨by rw [y1]; simp,by rw [← y2]; simp [encVs],by simp only [List.length_append,List.length_cons,List.length_nil]; omega⟩,by simp⟩

@[simp] theorem t544 (k0:Bool) (l:List XVal) (h:l.length≤1048576) (hs:XVal.sms l):Gw TT 544 [.one (.ro k0 (.sl 3 (l.map XVal.e)))] = some (.one (.own (.sl 1 ((encD l).map eb))),[]):=by
 refine Ga pf544 pb544 ?_
 unfold pb544
 by_cases q:typF l = 0
 ·have he:encD l = []:=by simp [encD,q]
  refine Uw (J4 h hs q he) ?_
  simp [pf544,he]
 ·obtain ⟨q1,q2,_,_⟩:=typF_ne q
  have hm:∀ r ∈ dictF l,r.S.size≤6:=fun r hr => typF_sz q _ (dictF_mem.1 hr)
  have hrl:=dictF_len l
  obtain ⟨p,hp⟩:=placesF_all (d:=dictF l) (l:=l) (fun v hv => dictF_mem.2 hv)
  have hpl:=placesF_len (dictF l) hp
  have hpd:placesD (dictF l) l = p:=by simp [placesD,hp]
  have he:encD l = encN (dictF l).length ++ encVs (dictF l) ++ packF p (widI ((dictF l).length - 1)):=by simp [encD,q,hpd]
  obtain ⟨R,hR⟩:∃ R,R = dictF l:=⟨_,rfl⟩
  rw [← hR] at he hm hrl hp
  have hn:=encN_len (R.length:Int)
  have hR2:R.length≤1048576:=by omega
  have hp2:p.length≤1048576:=by omega
  have hpk:=packF_len p (widI ((R.length:Int) - 1))
  have hwR:=Wi ((R.length:Int) - 1)
  obtain ⟨pk,hpke⟩:∃ pk,pk = packF p (widI ((R.length:Int) - 1)):=⟨_,rfl⟩
  rw [← hpke] at he hpk
  repeat' first|refine Zs ?_|((with_reducible refine Xk fun K k=>?_);simp [h,hs,q,← hR,hR2,hp];refine k _ ?_;clear k K)|refine Xt rfl ?_|refine Xf rfl ?_|(refine We rfl ?_ ?_<;>(intro hc;(try simp at hc);(all_goals first|(exfalso;omega)|skip)))
  refine wp_loopI (σ:=List XVal × List XVal × List Int) (fun s => [(3,AV.pl 3 0 [],some (Rt.vir [C.own (D.sl 3 (R.map XVal.e))])),(4,AV.pl 4 0 [],some (Rt.vir [C.own (D.sl 1 (p.map ei)),C.ro false (.bool true)])),(6,AV.pl 6 0 [],some (Rt.vir [C.own (D.sl 1 ((s.2.2).map eb))])),(7,AV.v false (di ((s.1.length:Nat):Int)),none)]) (fun s => R = s.1 ++ s.2.1∧s.2.2 ++ encVs s.2.1 = encN R.length ++ encVs R∧s.2.2.length≤5 + 7 * s.1.length) (fun s => s.2.1.length) ([],R,encN R.length) (by simp) ⟨rfl,rfl,by simp; omega⟩ ?_
  rintro ⟨pre,rest,a⟩ ⟨y1,y2,y4⟩
  simp only at y1 y2 y4
  have y3:R.length = pre.length + rest.length:=by rw [y1,List.length_append]
  rcases rest with _ | ⟨⟨dT,dN,dS⟩,rest⟩
  ·simp only [List.length_nil] at y3
   simp only [encVs,List.flatMap_nil,List.append_nil] at y2
   have c1:¬ (pre.length:Int) < (R.length:Int):=by omega
   have he2:encD l = a ++ pk:=by rw [he,y2]; try rfl
   have ha:(a.length + pk.length) * 1≤70368744177664:=by omega
   have ha2:a.length + pk.length≤70368744177664:=by omega
   unfold pl544_0
   repeat' first|refine Zs ?_|((with_reducible refine Xk fun K k=>?_);simp [c1,hp,hp2,h,hR2,hwR,← hpke,ha,ha2];refine k _ ?_;clear k K)|refine Xt rfl ?_|refine Xf rfl ?_|(refine We rfl ?_ ?_<;>(intro hc;(try simp at hc);(all_goals first|(exfalso;omega)|skip)))
   simp [pf544,he2]
  ·simp only [List.length_cons] at y3
   have hd:=hm ⟨dT,dN,dS⟩ (by rw [y1]; simp)
   simp only at hd
   have hd2:dS.size≤1048576:=by omega
   have hg:R[pre.length]? = some ⟨dT,dN,dS⟩:=by rw [y1]; simp
   obtain ⟨hlt,hge⟩:=List.getElem?_eq_some_iff.1 hg
   have c1:(pre.length:Int) < (R.length:Int):=by omega
   have hw:=Wi ((pre.length:Int) + 1)
   have hpv:=putV_len ⟨dT,dN,dS⟩
   have ha:a.length≤1048000:=by omega
   unfold pl544_0
   refine Uw (J7 hg hge hlt c1 hw hd2 ha) ?_
   exact ⟨(pre ++ [⟨dT,dN,dS⟩],rest,a ++ putV ⟨dT,dN,dS⟩),(by simp; try omega),⟨by rw [y1]; simp,by rw [← y2]; simp [encVs],by simp only [List.length_append,List.length_cons,List.length_nil]; omega⟩,by simp⟩

theorem t527_yes (k0 k1:Bool) (b:List Int) (k:Int) (l:List XVal) (e:List Int) (h1:1≤k) (h2:k≤64) (h3:(l.length:Int) = k) (h4:((strOf b).toList == (strOf e).toList) = true) :
  Gw TT 527 [.one (.ro k0 (.sl 1 (b.map eb))),vi k,.one (.own (.sl 3 (l.map XVal.e))),.one (.ro k1 (.sl 1 (e.map eb)))] = some (odV (some l),[(2,0,.own .dead)]):=by
 refine Ga pf527 pb527 ?_
 unfold pb527
 refine Ua (J4 h1 h2 h3 h4) ?_
 simp [pf527]

theorem t527_no (k0 k1:Bool) (b:List Int) (k:Int) (l:List XVal) (e:List Int) (h:¬ ((1≤k∧k≤64)∧(l.length:Int) = k∧((strOf b).toList == (strOf e).toList) = true)) :
  Gw TT 527 [.one (.ro k0 (.sl 1 (b.map eb))),vi k,.one (.own (.sl 3 (l.map XVal.e))),.one (.ro k1 (.sl 1 (e.map eb)))] = some (odV none,[(2,0,.own (.sl 3 (l.map XVal.e)))]):=by
 refine Ga pf527 pb527 ?_
 unfold pb527
 by_cases q1:1≤k∧k≤64
 ·by_cases q2:(l.length:Int) = k
  ·have q3:((strOf b).toList == (strOf e).toList) = false:=by
    cases hh:((strOf b).toList == (strOf e).toList) with
    | false => rfl
    | true => exact absurd ⟨q1,q2,hh⟩ h
   clear h
   refine Ud (J4 q1.1 q1.2 q2 q3) ?_
   simp [pf527]
  ·clear h
   refine Ud (J3 q1.1 q1.2 q2) ?_
   simp [pf527]
 ·clear h
  refine Ud Oo ?_
  repeat intro hc
  simp [pf527]

/-- What was decoded and agrees is given back. -/
theorem u527 (k0 k1:Bool) (b:List Int) (k:Int) (l:List XVal) (E:List XVal→List Int) (hb:bytesOk b) (he:bytesOk (E l)) :
  ∃ us,Gw TT 527 [.one (.ro k0 (.sl 1 (b.map eb))),vi k,.one (.own (.sl 3 (l.map XVal.e))),.one (.ro k1 (.sl 1 ((E l).map eb)))] = some (odV (chkE b k E l),us):=by
 by_cases q:(1≤k∧k≤64)∧(l.length:Int) = k∧b = E l
 ·have h4:((strOf b).toList == (strOf (E l)).toList) = true:=by rw [strEq hb he]; simpa using q.2.2
  have e1:chkE b k E l = some l:=by unfold chkE; rw [if_pos q]
  rw [e1]
  exact ⟨_,t527_yes k0 k1 b k l (E l) q.1.1 q.1.2 q.2.1 h4⟩
 ·have e1:chkE b k E l = none:=by unfold chkE; rw [if_neg q]
  rw [e1]
  refine ⟨_,t527_no k0 k1 b k l (E l) (fun e => q ⟨e.1,e.2.1,?_⟩)⟩
  have:=e.2.2
  rw [strEq hb he] at this
  simpa using this

theorem getVs_sms {b:List Int} {ty:Int} {k:Nat} {u t:Int} {l:List XVal} (hb:bytesOk b) (h0:0≤u) (h1:u≤(b.length:Int)) (h:getVs b ty k u = some (l,t)):XVal.sms l∧l.length = k:=by
 obtain ⟨a1,a2,_⟩:=getVs_can hb h0 h1 h
 refine ⟨fun v hv => ?_,a1⟩
 have:=valOkF_len (typA_mem a2 v hv).1
 simp only [XVal.sm]; omega

theorem decP_chk {b:List Int} {ty k:Int} (hb:bytesOk b) (hk:1≤k∧k≤64) {l:List XVal} {t:Int} (h:getVs b ty k.toNat 0 = some (l,t)):decP b ty k = chkE b k encP l:=by
 obtain ⟨h1,_,h3⟩:=decP_enc hb hk h
 unfold decP chkE
 rw [if_pos hk,h]
 simp only
 by_cases e:t = (b.length:Int)
 ·rw [if_pos e,if_pos ⟨hk,h1,h3.2 e⟩]
 ·rw [if_neg e,if_neg (fun q => e (h3.1 q.2.2))]

theorem chkE_nil {b:List Int} {k:Int} {E:List XVal→List Int}:chkE b k E [] = none:=by
 unfold chkE; rw [if_neg (fun q => by have:=q.2.1; simp at this; omega)]

@[simp] theorem t522 (k0:Bool) (b:List Int) (ty k:Int) (h:b.length≤1048576) (hb:bytesOk b):Gw TT 522 [.one (.ro k0 (.sl 1 (b.map eb))),vi ty,vi k] = some (odV (decP b ty k),[]):=by
 refine Ga pf522 pb522 ?_
 unfold pb522
 by_cases q:1≤k∧k≤64
 ·have q0:0≤k:=by omega
  have hg:=t549 k0 b 0 ty k h hb q0 q.2
  cases hv:getVs b ty k.toNat 0 with
  | none =>
   have hd:decP b ty k = none:=by unfold decP; rw [if_pos q,hv]
   rw [hv] at hg
   obtain ⟨us,hu⟩:=u527 k0 true b k [] encP hb (encP_ok [])
   have he:=t550 true [] (by simp) (fun v hv => by simp at hv)
   have hn:encP [] = []:=rfl
   rw [chkE_nil] at hu
   simp only [hn,List.map_nil] at hu he
   refine Uw (J6 q.1 q.2 hg he hu hd) ?_
   simp [pf522,hd]
  | some w =>
   obtain ⟨l,t⟩:=w
   rw [hv] at hg
   obtain ⟨hs,hl⟩:=getVs_sms hb (Int.le_refl _) (by omega) hv
   have hl2:l.length≤1048576:=by omega
   obtain ⟨us,hu⟩:=u527 k0 true b k l encP hb (encP_ok l)
   rw [decP_chk hb q hv]
   cases hc:chkE b k encP l with
   | none =>
    rw [hc] at hu
    refine Uw (J6 q.1 q.2 hg hs hl2 hu) ?_
    simp [pf522]
   | some l' =>
    rw [hc] at hu
    refine Uw (J6 q.1 q.2 hg hs hl2 hu) ?_
    simp [pf522]
 ·have hd:decP b ty k = none:=by unfold decP; rw [if_neg q]
  refine Uw hd ?_
  repeat intro hc
  simp [pf522,hd]

@[simp] theorem t523 (k0:Bool) (b:List Int) (ty k:Int) (h:b.length≤1048576) (hb:bytesOk b):Gw TT 523 [.one (.ro k0 (.sl 1 (b.map eb))),vi ty,vi k] = some (odV (decR b ty k),[]):=by
 refine Ga pf523 pb523 ?_
 unfold pb523
 cases hg:gN b 0 with
 | none =>
  have hdr:decR b ty k = none:=by unfold decR; rw [hg]
  refine Uw (J4 h hb hg hdr) ?_
  simp [pf523,hdr]
 | some q =>
  obtain ⟨n,u⟩:=q
  by_cases q1:1≤n∧n≤64
  ·obtain ⟨m,rfl⟩:=Int.eq_ofNat_of_zero_le (show 0≤n by omega)
   have q2:(1:Int)≤(m:Int):=q1.1
   have q3:(m:Int)≤64:=q1.2
   have hdr:∀ {r:List XRun} {t:Int},getRs b ty m u = some (r,t)→decR b ty k = chkE b k encR (spreadF r):=fun {r t} hr => by
    unfold decR; rw [hg]; simp only; rw [if_pos q1,show ((m:Int)).toNat = m by omega,hr]
   have hdn:getRs b ty m u = none→decR b ty k = none:=fun hr => by
    unfold decR; rw [hg]; simp only; rw [if_pos q1,show ((m:Int)).toNat = m by omega,hr]
   refine Uw (J5 h hb hg q2 q3) ?_
   refine wp_loopI (σ:=List XRun × (Nat × Int)) (fun s => [(0,AV.v k0 (D.sl 1 (b.map eb)),none),(1,AV.v false (di ty),none),(2,AV.v false (di k),none),(8,AV.v false (di (m:Nat)),none),(9,AV.v false (di s.2.2),none),(11,AV.pl 11 0 [],some (Rt.vir [C.own (D.sl 4 (s.1.map XRun.e))])),(12,AV.v false (di (s.1.length:Nat)),none)]) (fun s => s.1.length + s.2.1 = m∧getRs b ty m u = preL s.1 (getRs b ty s.2.1 s.2.2)) (fun s => s.2.1) ([],(m,u)) (by simp) ⟨by simp,by rw [preL_nil]⟩ ?_
   rintro ⟨a,⟨i,v⟩⟩ ⟨y1,y2⟩
   simp only at y1 y2
   have hq:(a.length + 1) * 40≤70368744177664:=by omega
   cases i with
   | zero =>
    have c1:¬ (a.length:Int) < (m:Int):=by omega
    simp only [getRs,preL_some,List.append_nil] at y2
    have hd:=hdr y2
    have hS:=spreadF_sms (getRs_sz hb y2)
    have hSl:=spreadF_len a
    obtain ⟨S,hSe⟩:∃ S,S = spreadF a:=⟨_,rfl⟩
    rw [← hSe] at hd hS hSl
    have hS2:S.length≤1048576:=by omega
    have ha:a.length≤1048576:=by omega
    obtain ⟨us,hu⟩:=u527 k0 true b k S encR hb (encR_ok S)
    rw [hd]
    unfold pl523_0
    cases hc:chkE b k encR S with
    | none =>
     rw [hc] at hu
     repeat' first|refine Zs ?_|((with_reducible refine Xk fun K k=>?_);simp [c1,ha,← hSe,hS,hS2,hu];refine k _ ?_;clear k K)|refine Xt rfl ?_|refine Xf rfl ?_|(refine We rfl ?_ ?_<;>(intro hc;(try simp at hc);(all_goals first|(exfalso;omega)|skip)))
     simp [pf523]
    | some l' =>
     rw [hc] at hu
     repeat' first|refine Zs ?_|((with_reducible refine Xk fun K k=>?_);simp [c1,ha,← hSe,hS,hS2,hu];refine k _ ?_;clear k K)|refine Xt rfl ?_|refine Xf rfl ?_|(refine We rfl ?_ ?_<;>(intro hc;(try simp at hc);(all_goals first|(exfalso;omega)|skip)))
     simp [pf523]
   | succ i =>
    have c1:(a.length:Int) < (m:Int):=by omega
    have hw:=Wi ((a.length:Int) + 1)
    cases hv:gN b v with
    | none =>
     rw [getRs_none (getR_none1 hv)] at y2
     have hd2:=hdn y2
     unfold pl523_0
     refine Uw (J6 c1 hw h hb hv hd2) ?_
     simp [pf523,hd2]
    | some q =>
     obtain ⟨c,t1⟩:=q
     have hr1:=getR_some1 (ty:=ty) hv
     cases hv2:getV b t1 ty with
     | none =>
      rw [hv2] at hr1
      rw [getRs_none hr1] at y2
      have hd2:=hdn y2
      unfold pl523_0
      refine Uw (J7 c1 hw h hb hv hv2 hd2) ?_
      simp [pf523,hd2]
     | some q =>
      obtain ⟨⟨dT,dN,dS⟩,t⟩:=q
      rw [hv2] at hr1
      rw [getRs_some hr1] at y2
      unfold pl523_0
      refine Uw (J7 c1 hw h hb hv hv2 hq) ?_
      exact ⟨(a ++ [⟨⟨dT,dN,dS⟩,c⟩],(i,t)),(by simp; try omega),⟨by simp; omega,y2⟩,by simp⟩
  ·have hd2:decR b ty k = none:=by
    unfold decR; rw [hg]; simp only
    rw [if_neg q1]
   refine Uw (J4 h hb hg hd2) ?_
   repeat intro hc
   simp [pf523,hd2]

theorem decDn_out {m:Int} {b:List Int} {ty k:Int} (hk:¬ (1≤k∧k≤64)):decDn m b ty k = none:=by
 unfold decDn
 split
 ·split
  ·split
   ·split
    ·split
     ·unfold chkE; rw [if_neg (fun e => hk e.1)]
     ·rfl
    ·rfl
   ·rfl
  ·rfl
 ·rfl

theorem decD_64 (b:List Int) (ty k:Int):decD b ty k = decDn 64 b ty k:=by
 by_cases hk:1≤k∧k≤64
 ·exact (decD_eq b ty k hk).symm
 ·unfold decD; rw [decDn_out hk,decDn_out hk]

theorem unpF_len {b:List Int} {w k:Int} {p:List Int} (h:unpF b w k = some p):(p.length:Int) = k:=by
 unfold unpF at h
 split at h
 ·rename_i hh
  split at h
  ·simp at h; subst h
   rw [unpRows_len]; omega
  ·cases h
 ·cases h

theorem decDn_run {m:Int} {b:List Int} {ty k n u:Int} (hg:gN b 0 = some (n,u)) (hn:1≤n∧n≤m):decDn m b ty k = match getVs b ty n.toNat u with
  | some (d,t) => (match unpF (b.drop t.toNat) (widI (n - 1)) k with
   | some p => (match pickF d p with
    | some l => chkE b k encD l
    | none => none)
   | none => none)
  | none => none:=by
 unfold decDn
 rw [hg]
 simp only
 rw [if_pos hn]
 try rfl

theorem pickF_mem {d:List XVal}:∀ {l:List Int} {r:List XVal},pickF d l = some r→∀ v ∈ r,v ∈ d
 | [],r,h,v,hv => by simp [pickF] at h; subst h; simp at hv
 | i :: l,r,h,v,hv => by
  simp only [pickF] at h
  split at h
  ·split at h
   ·rename_i x hx
    split at h
    ·rename_i q hq
     simp at h; subst h
     rcases List.mem_cons.1 hv with rfl | hv
     ·exact List.mem_of_getElem? hx
     ·exact pickF_mem hq v hv
    ·cases h
   ·cases h
  ·cases h

theorem drop_takeB (b:List Int) (n:Nat):List.drop n (List.take b.length (List.map eb b)) = List.map eb (b.drop n):=by
 rw [List.take_of_length_le (by simp),List.map_drop]

@[simp] theorem t516 (k0:Bool) (b:List Int) (ty k:Int) (h:b.length≤1048576) (hb:bytesOk b):Gw TT 516 [.one (.ro k0 (.sl 1 (b.map eb))),vi ty,vi k] = some (odV (decD b ty k),[]):=by
 refine Ga pf516 pb516 ?_
 unfold pb516
 by_cases q4:1≤k∧k≤64
 ·cases hg:gN b 0 with
  | none =>
   have hd:decD b ty k = none:=by unfold decD decDn; rw [hg]
   refine Ud (J4 h hb hg hd) ?_
   simp [pf516,hd]
  | some q =>
   obtain ⟨n,u⟩:=q
   by_cases q1:1≤n∧n≤k
   ·obtain ⟨m,rfl⟩:=Int.eq_ofNat_of_zero_le (show 0≤n by omega)
    have q2:(1:Int)≤(m:Int):=q1.1
    have q3:(m:Int)≤k:=q1.2
    obtain ⟨_,_,hu1,hu2,_⟩:=gN_can hb hg
    have hdr:=decDn_run (m:=k) (ty:=ty) (k:=k) hg q1
    change decD b ty k = _ at hdr
    rw [show ((m:Int)).toNat = m by omega] at hdr
    refine Ud (J7 h hb hg q2 q3 q4.1 q4.2) ?_
    refine wp_loopI (σ:=List XVal × (Nat × Int)) (fun s => [(0,AV.v k0 (D.sl 1 (b.map eb)),none),(1,AV.v false (di ty),none),(2,AV.v false (di k),none),(8,AV.pl 8 0 [],some (Rt.vir [C.own (D.sl 3 [])])),(9,AV.v false (di (m:Nat)),none),(10,AV.v false (di s.2.2),none),(12,AV.pl 12 0 [],some (Rt.vir [C.own (D.sl 3 (s.1.map XVal.e))])),(13,AV.v false (di (s.1.length:Nat)),none)]) (fun s => s.1.length + s.2.1 = m∧getVs b ty m u = preL s.1 (getVs b ty s.2.1 s.2.2)) (fun s => s.2.1) ([],(m,u)) (by simp) ⟨by simp,by rw [preL_nil]⟩ ?_
    rintro ⟨a,⟨i,v⟩⟩ ⟨y1,y2⟩
    simp only at y1 y2
    have hq:(a.length + 1) * 32≤70368744177664:=by omega
    cases i with
    | zero =>
     have c1:¬ (a.length:Int) < (m:Int):=by omega
     simp only [getVs,preL_some,List.append_nil] at y2
     obtain ⟨hds,hdl⟩:=getVs_sms hb (by omega) (by omega) y2
     obtain ⟨_,_,ht1,ht2,_⟩:=getVs_can hb (by omega) (by omega) y2
     obtain ⟨tn,rfl⟩:=Int.eq_ofNat_of_zero_le (show 0≤v by omega)
     rw [y2] at hdr
     simp only [Int.toNat_natCast] at hdr
     have s1:(0:Int)≤(tn:Int):=by omega
     have s2:(tn:Int)≤(b.length:Int):=by omega
     have s3:tn≤b.length:=by omega
     have s4:=drop_takeB b tn
     have s5:(b.drop tn).length≤1048576:=by simp; omega
     have s6:=bytesOk_drop tn hb
     have s7:b.length - tn≤1048576:=by omega
     have s8:=Wi ((m:Int) - 1)
     obtain ⟨B,hB⟩:∃ B,B = b.drop tn:=⟨_,rfl⟩
     rw [← hB] at hdr s4 s5 s6
     have s9:List.drop tn (List.map eb b) = List.map eb B:=by rw [hB,List.map_drop]
     have da:a.length≤1048576:=by omega
     cases hun:unpF B (widI ((m:Int) - 1)) k with
     | none =>
      rw [hun] at hdr
      simp only at hdr
      unfold pl516_0
      obtain ⟨rr,hr⟩:∃ rr,pickF a [] = some rr:=⟨_,rfl⟩
      have hr0:rr = []:=by simp [pickF] at hr; first | exact hr | exact hr.symm
      subst hr0
      have hpk:=t543 true true a [] da (by simp)
      simp only [List.map_nil,hr,odV_some] at hpk
      refine Ud (J8 c1 s1 s2 s3 s9 s5 s6 (J4 s8 hun hpk hdr)) ?_
      simp [pf516,hdr]
     | some p =>
      have hpl:=unpF_len hun
      rw [hun] at hdr
      simp only at hdr
      have pl2:p.length≤1048576:=by omega
      cases hpi:pickF a p with
      | none =>
       rw [hpi] at hdr
       simp only at hdr
       unfold pl516_0
       refine Ud (J8 c1 s1 s2 s3 s9 s5 s6 (J6 s8 hun da pl2 hpi hdr)) ?_
       simp [pf516,hdr]
      | some l =>
       rw [hpi] at hdr
       simp only at hdr
       have hll:=pickF_len a hpi
       have hls:XVal.sms l:=fun x hx => hds x (pickF_mem hpi x hx)
       have hl2:l.length≤1048576:=by omega
       have hlk:(l.length:Int) = k:=by omega
       have hse:=strEq (encD_ok l) hb
       unfold pl516_0
       by_cases e3:encD l = b
       ·have e4:((strOf (encD l)).toList == (strOf b).toList) = true:=by rw [hse]; simpa using e3
        have hd2:decD b ty k = some l:=by rw [hdr]; unfold chkE; rw [if_pos ⟨q4,hlk,e3.symm⟩]
        refine Ud (J8 c1 s1 s2 s3 s9 s5 s6 (J8 s8 hun da pl2 hpi hls hl2 (J2 e4 hd2))) ?_
        simp [pf516,hd2]
       ·have e4:((strOf (encD l)).toList == (strOf b).toList) = false:=by rw [hse]; simpa using e3
        have hd2:decD b ty k = none:=by rw [hdr]; unfold chkE; rw [if_neg (fun e => e3 e.2.2.symm)]
        refine Ud (J8 c1 s1 s2 s3 s9 s5 s6 (J8 s8 hun da pl2 hpi hls hl2 (J2 e4 hd2))) ?_
        simp [pf516,hd2]
    | succ i =>
     have c1:(a.length:Int) < (m:Int):=by omega
     have hw:=Wi ((a.length:Int) + 1)
     cases hv:getV b v ty with
     | none =>
      rw [getVs_none hv] at y2
      rw [y2] at hdr
      simp only at hdr
      unfold pl516_0
      refine Ud (J6 c1 hw h hb hv hdr) ?_
      simp [pf516,hdr]
     | some q =>
      obtain ⟨⟨dT,dN,dS⟩,t⟩:=q
      rw [getVs_some hv] at y2
      unfold pl516_0
      refine Ud (J6 c1 hw h hb hv hq) ?_
      exact ⟨(a ++ [⟨dT,dN,dS⟩],(i,t)),(by simp; try omega),⟨by simp; omega,y2⟩,by simp⟩
   ·have hd:decD b ty k = none:=by unfold decD decDn; rw [hg]; simp only; rw [if_neg q1]
    refine Ud (J6 h hb hg q4.1 q4.2 hd) ?_
    repeat intro hc
    simp [pf516,hd]
 ·have hd:decD b ty k = none:=by unfold decD; exact decDn_out q4
  cases hg:gN b 0 with
  | none =>
   refine Ud (J4 h hb hg hd) ?_
   simp [pf516,hd]
  | some q =>
   obtain ⟨n,u⟩:=q
   refine Ud (J4 h hb hg hd) ?_
   repeat intro hc
   simp [pf516,hd]

@[simp] theorem t524 (k0:Bool) (b:List Int) (ty k:Int) (h:b.length≤1048576) (hb:bytesOk b):Gw TT 524 [.one (.ro k0 (.sl 1 (b.map eb))),vi ty,vi k] = some (odV (decD b ty k),[]):=by
 refine Ga pf524 pb524 ?_
 unfold pb524
 rw [decD_64]
 cases hg:gN b 0 with
 | none =>
  have hd:decDn 64 b ty k = none:=by unfold decDn; rw [hg]
  refine Uw (J4 h hb hg hd) ?_
  simp [pf524,hd]
 | some q =>
  obtain ⟨n,u⟩:=q
  by_cases q1:1≤n∧n≤64
  ·obtain ⟨m,rfl⟩:=Int.eq_ofNat_of_zero_le (show 0≤n by omega)
   have q2:(1:Int)≤(m:Int):=q1.1
   have q3:(m:Int)≤64:=q1.2
   have q5:(0:Int)≤(m:Int):=by omega
   obtain ⟨_,_,hu1,hu2,_⟩:=gN_can hb hg
   have hdr:=decDn_run (m:=64) (ty:=ty) (k:=k) hg q1
   rw [show ((m:Int)).toNat = m by omega] at hdr
   have hgv:=t549 k0 b u ty (m:Int) h hb q5 q3
   rw [show ((m:Int)).toNat = m by omega] at hgv
   cases hy:getVs b ty m u with
   | none =>
    rw [hy] at hgv hdr
    simp only at hdr
    refine Uw (J7 h hb hg q2 q3 hgv hdr) ?_
    simp [pf524,hdr]
   | some w =>
    obtain ⟨a,v⟩:=w
    have y2:=hy
    rw [hy] at hgv
    have y1:=(getVs_sms hb (by omega) (by omega) y2).2
    obtain ⟨hds,hdl⟩:=getVs_sms hb (by omega) (by omega) y2
    obtain ⟨_,_,ht1,ht2,_⟩:=getVs_can hb (by omega) (by omega) y2
    obtain ⟨tn,rfl⟩:=Int.eq_ofNat_of_zero_le (show 0≤v by omega)
    rw [y2] at hdr
    simp only [Int.toNat_natCast] at hdr
    have s1:(0:Int)≤(tn:Int):=by omega
    have s2:(tn:Int)≤(b.length:Int):=by omega
    have s3:tn≤b.length:=by omega
    have s4:=drop_takeB b tn
    have s5:(b.drop tn).length≤1048576:=by simp; omega
    have s6:=bytesOk_drop tn hb
    have s7:b.length - tn≤1048576:=by omega
    have s8:=Wi ((m:Int) - 1)
    obtain ⟨B,hB⟩:∃ B,B = b.drop tn:=⟨_,rfl⟩
    rw [← hB] at hdr s4 s5 s6
    have s9:List.drop tn (List.map eb b) = List.map eb B:=by rw [hB,List.map_drop]
    have da:a.length≤1048576:=by omega
    cases hun:unpF B (widI ((m:Int) - 1)) k with
    | none =>
     rw [hun] at hdr
     simp only at hdr
     refine Uw (J8 h hb hg q2 q3 hgv s1 (J8 s2 s3 s9 s5 s6 s8 hun hdr)) ?_
     simp [pf524,hdr]
    | some p =>
     have hpl:=unpF_len hun
     rw [hun] at hdr
     simp only at hdr
     have hk64:k≤64:=by
      have:=hun
      unfold unpF at this
      split at this
      ·rename_i hh; exact hh.1.2.2
      ·cases this
     have pl2:p.length≤1048576:=by omega
     cases hpi:pickF a p with
     | none =>
      rw [hpi] at hdr
      simp only at hdr
      obtain ⟨us,hu⟩:=u527 k0 true b k [] encD hb (encD_ok [])
      have he:=t557 true [] (by simp) (fun v hv => by simp at hv)
      have hn:encD [] = []:=rfl
      rw [chkE_nil] at hu
      simp only [hn,List.map_nil] at hu he
      refine Uw (J8 h hb hg q2 q3 hgv s1 (J8 s2 s3 s9 s5 s6 s8 hun (J6 da pl2 hpi he hu hdr))) ?_
      simp [pf524,hdr]
     | some l =>
      rw [hpi] at hdr
      simp only at hdr
      have hll:=pickF_len a hpi
      have hls:XVal.sms l:=fun x hx => hds x (pickF_mem hpi x hx)
      have hl2:l.length≤1048576:=by omega
      obtain ⟨us,hu⟩:=u527 k0 true b k l encD hb (encD_ok l)
      rw [hdr]
      cases hc:chkE b k encD l with
      | none =>
       rw [hc] at hu
       refine Uw (J8 h hb hg q2 q3 hgv s1 (J8 s2 s3 s9 s5 s6 s8 hun (J6 da pl2 hpi hls hl2 hu))) ?_
       simp [pf524]
      | some l' =>
       rw [hc] at hu
       refine Uw (J8 h hb hg q2 q3 hgv s1 (J8 s2 s3 s9 s5 s6 s8 hun (J6 da pl2 hpi hls hl2 hu))) ?_
       simp [pf524]
  ·have hd:decDn 64 b ty k = none:=by unfold decDn; rw [hg]; simp only; rw [if_neg q1]
   refine Uw (J4 h hb hg hd) ?_
   repeat intro hc
   simp [pf524,hd]

@[simp] theorem t589 (k0:Bool) (l:List XVal) (h:l.length≤1048576):Gw TT 589 [.one (.ro k0 (.sl 3 (l.map XVal.e)))] = some (vi (baseF l),[]):=by
 refine Ga pf589 pb589 ?_
 unfold pb589
 rcases l with _ | ⟨⟨aT,aN,aS⟩,l0⟩
 ·have hb:baseF [] = 0:=rfl
  refine Ua hb ?_
  simp [pf589,hb]
 ·obtain ⟨l,hl⟩:∃ l,l = (⟨aT,aN,aS⟩:XVal) :: l0:=⟨_,rfl⟩
  have hb:baseF l = baseG aN l:=by rw [hl]; simp [baseF,baseG]
  rw [← hl]
  have hg0:l[0]? = some ⟨aT,aN,aS⟩:=by rw [hl]; try rfl
  obtain ⟨hlt0,hge0⟩:=List.getElem?_eq_some_iff.1 hg0
  have hn:¬ (l.length:Int) = 0:=by omega
  have hn2:l ≠ []:=by rw [hl]; simp
  have hn3:l.isEmpty = false:=by rw [hl]; try rfl
  have hn4:((l.length:Int) == 0) = false:=by simpa using hn2
  refine Ua (J7 hn hn2 hn3 hn4 hg0 hlt0 hge0) ?_
  refine wp_loopI (σ:=List XVal × List XVal × Int) (fun s => [(3,AV.v false (di s.2.2),none),(13,AV.v k0 (D.sl 3 (l.map XVal.e)),none),(14,AV.v false (di (l.length:Nat)),none),(15,AV.v false (di ((s.1.length:Nat):Int)),none)]) (fun s => l = s.1 ++ s.2.1∧baseF l = baseG s.2.2 s.2.1) (fun s => s.2.1.length) ([],l,aN) (by simp) ⟨rfl,hb⟩ ?_
  rintro ⟨pre,rest,m⟩ ⟨y1,y2⟩
  simp only at y1 y2
  have y3:l.length = pre.length + rest.length:=by rw [y1,List.length_append]
  rcases rest with _ | ⟨⟨dT,dN,dS⟩,rest⟩
  ·simp only [List.length_nil] at y3
   simp only [baseG] at y2
   have c1:¬ (pre.length:Int) < (l.length:Int):=by omega
   unfold pl589_0
   refine Ua (J2 c1 y2) ?_
   simp [pf589,y2]
  ·simp only [List.length_cons] at y3 h
   simp only [baseG] at y2
   have hg:l[pre.length]? = some ⟨dT,dN,dS⟩:=by rw [y1]; simp
   obtain ⟨hlt,hge⟩:=List.getElem?_eq_some_iff.1 hg
   have c1:(pre.length:Int) < (l.length:Int):=by omega
   have hll:l.length≤1048576:=by rw [hl]; simpa using h
   have hw:=Wi ((pre.length:Int) + 1)
   unfold pl589_0
   refine Ua (J5 hg hge hlt c1 hw) ?_
   exact ⟨(pre ++ [⟨dT,dN,dS⟩],rest,if dN < m then dN else m),(by simp; try omega),⟨by rw [y1]; simp,y2⟩,by simp⟩

@[simp] theorem t577 (k0:Bool) (l:List XVal) (h:l.length≤1048576):Gw TT 577 [.one (.ro k0 (.sl 3 (l.map XVal.e)))] = some (vi (baseF l),[]):=by
 refine Ga pf577 pb577 ?_
 unfold pb577
 refine Ua Oo ?_
 refine wp_loopI (σ:=List XVal × List XVal × Int) (fun s => [(0,AV.v k0 (D.sl 3 (l.map XVal.e)),none),(3,AV.v false (di s.2.2),none),(4,AV.v false (di ((s.1.length:Nat):Int)),none)]) (fun s => l = s.1 ++ s.2.1∧((s.1 = []∧s.2.2 = 0) ∨ (s.1 ≠ []∧baseF l = baseG s.2.2 s.2.1))) (fun s => s.2.1.length) ([],l,0) (by simp) ⟨rfl,.inl ⟨rfl,rfl⟩⟩ ?_
 rintro ⟨pre,rest,m⟩ ⟨y1,y2⟩
 simp only at y1 y2
 have y3:l.length = pre.length + rest.length:=by rw [y1,List.length_append]
 rcases rest with _ | ⟨⟨dT,dN,dS⟩,rest⟩
 ·simp only [List.length_nil] at y3
  have c1:¬ (pre.length:Int) < (l.length:Int):=by omega
  have hb:baseF l = m:=by
   rcases y2 with ⟨rfl,rfl⟩ | ⟨_,y2⟩
   ·simp at y1; subst y1; rfl
   ·simpa [baseG] using y2
  unfold pl577_0
  refine Ua (J2 c1 hb) ?_
  simp [pf577,hb]
 ·simp only [List.length_cons] at y3
  have hg:l[pre.length]? = some ⟨dT,dN,dS⟩:=by rw [y1]; simp
  obtain ⟨hlt,hge⟩:=List.getElem?_eq_some_iff.1 hg
  have c1:(pre.length:Int) < (l.length:Int):=by omega
  have hw:=Wi ((pre.length:Int) + 1)
  rcases y2 with ⟨rfl,rfl⟩ | ⟨yn,y2⟩
  ·have hb:baseF l = baseG dN rest:=by rw [y1]; try rfl
   simp only [List.length_nil] at hg hge hlt c1 hw
   unfold pl577_0
   refine Ua (J5 hg hge hlt c1 hw) ?_
   exact ⟨([⟨dT,dN,dS⟩],rest,dN),(by simp; try omega),⟨by rw [y1]; simp,.inr ⟨by simp,hb⟩⟩,by simp⟩
  ·have hpl:0 < pre.length:=List.length_pos_iff.2 yn
   have c2:¬ (pre.length:Int) = 0:=by omega
   simp only [baseG] at y2
   unfold pl577_0
   by_cases e:dN < m
   ·rw [if_pos e] at y2
    refine Ua (J8 hg hge hlt c1 hw c2 yn e) ?_
    exact ⟨(pre ++ [⟨dT,dN,dS⟩],rest,dN),(by simp; try omega),⟨by rw [y1]; simp,.inr ⟨by simp,y2⟩⟩,by simp⟩
   ·rw [if_neg e] at y2
    refine Ua (J8 hg hge hlt c1 hw c2 yn e) ?_
    exact ⟨(pre ++ [⟨dT,dN,dS⟩],rest,m),(by simp; try omega),⟨by rw [y1]; simp,.inr ⟨by simp,y2⟩⟩,by simp⟩

theorem offs_rng {l:List XVal} (h:typF l = 1):(-1000000000≤baseF l∧baseF l≤1000000000)∧∀ v ∈ l,0≤v.N - baseF l∧v.N - baseF l≤2000000000:=by
 obtain ⟨h1,h2,h3⟩:=typ1 h
 obtain ⟨h4,v0,hv0,h5⟩:=baseF_le (l:=l) (by omega)
 have h6:=(h3 v0 hv0).2.2
 refine ⟨by omega,fun v hv => ?_⟩
 have:=(h3 v hv).2.2
 have:=h4 v hv
 omega

@[simp] theorem t587 (k0:Bool) (l:List XVal) (h:l.length≤1048576) (hs:XVal.sms l):Gw TT 587 [.one (.ro k0 (.sl 3 (l.map XVal.e)))] = some (.one (.own (.sl 1 ((if typF l = 1 then offsF l else []).map ei))),[]):=by
 refine Ga pf587 pb587 ?_
 unfold pb587
 by_cases q:typF l = 1
 ·rw [if_pos q]
  obtain ⟨hb,hr⟩:=offs_rng q
  have q2:=(typ1 q).2.1
  refine Uw (J3 h hs q) ?_
  refine wp_loopI (σ:=List XVal × List XVal × List Int) (fun s => [(0,AV.v k0 (D.sl 3 (l.map XVal.e)),none),(3,AV.pl 3 0 [],some (Rt.vir [C.own (D.sl 1 ((s.2.2).map ei))])),(11,AV.v k0 (D.sl 3 (l.map XVal.e)),none),(12,AV.v false (di (l.length:Nat)),none),(13,AV.v false (di ((s.1.length:Nat):Int)),none)]) (fun s => l = s.1 ++ s.2.1∧s.2.2 ++ s.2.1.map (fun v => v.N - baseF l) = offsF l∧s.2.2.length≤s.1.length) (fun s => s.2.1.length) ([],l,[]) (by simp) ⟨rfl,rfl,by simp⟩ ?_
  rintro ⟨pre,rest,a⟩ ⟨y1,y2,y4⟩
  simp only at y1 y2 y4
  have y3:l.length = pre.length + rest.length:=by rw [y1,List.length_append]
  rcases rest with _ | ⟨⟨dT,dN,dS⟩,rest⟩
  ·simp only [List.length_nil] at y3
   simp only [List.map_nil,List.append_nil] at y2
   have c1:¬ (pre.length:Int) < (l.length:Int):=by omega
   unfold pl587_0
   refine Uw c1 ?_
   simp [pf587,y2]
  ·simp only [List.length_cons] at y3
   have hd:=hr ⟨dT,dN,dS⟩ (by rw [y1]; simp)
   simp only at hd
   have hg:l[pre.length]? = some ⟨dT,dN,dS⟩:=by rw [y1]; simp
   obtain ⟨hlt,hge⟩:=List.getElem?_eq_some_iff.1 hg
   have c1:(pre.length:Int) < (l.length:Int):=by omega
   have hw:=Wi ((pre.length:Int) + 1)
   have hw2:=Wi (dN - baseF l)
   have hq:(a.length + 1) * 8≤70368744177664:=by omega
   unfold pl587_0
   refine Uw (J8 hg hge hlt c1 hw hw2 hq h) ?_
   exact ⟨(pre ++ [⟨dT,dN,dS⟩],rest,a ++ [dN - baseF l]),(by simp; try omega),⟨by rw [y1]; simp,by rw [← y2]; simp,by simp; omega⟩,by simp⟩
 ·rw [if_neg q]
  refine Uw (J3 h hs q) ?_
  repeat intro hc
  simp [pf587]

@[simp] theorem t575 (k0:Bool) (l:List XVal) (h:l.length≤1048576) (hs:XVal.sms l):Gw TT 575 [.one (.ro k0 (.sl 3 (l.map XVal.e)))] = some (.one (.own (.sl 1 ((if typF l = 1 then offsF l else []).map ei))),[]):=by
 refine Ga pf575 pb575 ?_
 unfold pb575
 by_cases q:typF l = 1
 ·rw [if_pos q]
  obtain ⟨hb,hr⟩:=offs_rng q
  have q2:=(typ1 q).2.1
  refine Uw (J3 h hs q) ?_
  refine wp_loopI (σ:=List XVal × List XVal × List Int) (fun s => [(0,AV.v k0 (D.sl 3 (l.map XVal.e)),none),(3,AV.pl 3 0 [],some (Rt.vir [C.own (D.sl 1 ((s.2.2).map ei))])),(4,AV.v false (di (baseF l)),none),(5,AV.v false (di ((s.1.length:Nat):Int)),none)]) (fun s => l = s.1 ++ s.2.1∧s.2.2 ++ s.2.1.map (fun v => v.N - baseF l) = offsF l∧s.2.2.length≤s.1.length) (fun s => s.2.1.length) ([],l,[]) (by simp) ⟨rfl,rfl,by simp⟩ ?_
  rintro ⟨pre,rest,a⟩ ⟨y1,y2,y4⟩
  simp only at y1 y2 y4
  have y3:l.length = pre.length + rest.length:=by rw [y1,List.length_append]
  rcases rest with _ | ⟨⟨dT,dN,dS⟩,rest⟩
  ·simp only [List.length_nil] at y3
   simp only [List.map_nil,List.append_nil] at y2
   have c1:¬ (pre.length:Int) < (l.length:Int):=by omega
   unfold pl575_0
   refine Uw c1 ?_
   simp [pf575,y2]
  ·simp only [List.length_cons] at y3
   have hd:=hr ⟨dT,dN,dS⟩ (by rw [y1]; simp)
   simp only at hd
   have hg:l[pre.length]? = some ⟨dT,dN,dS⟩:=by rw [y1]; simp
   obtain ⟨hlt,hge⟩:=List.getElem?_eq_some_iff.1 hg
   have c1:(pre.length:Int) < (l.length:Int):=by omega
   have hw:=Wi ((pre.length:Int) + 1)
   have hw2:=Wi (dN - baseF l)
   have hq:(a.length + 1) * 8≤70368744177664:=by omega
   unfold pl575_0
   refine Uw (J8 hg hge hlt c1 hw hw2 hq h) ?_
   exact ⟨(pre ++ [⟨dT,dN,dS⟩],rest,a ++ [dN - baseF l]),(by simp; try omega),⟨by rw [y1]; simp,by rw [← y2]; simp,by simp; omega⟩,by simp⟩
 ·rw [if_neg q]
  refine Uw (J3 h hs q) ?_
  repeat intro hc
  simp [pf575]

@[simp] theorem t559 (k0:Bool) (l:List XVal) (h:l.length≤1048576) (hs:XVal.sms l):Gw TT 559 [.one (.ro k0 (.sl 3 (l.map XVal.e)))] = some (.one (.own (.sl 1 ((encF l).map eb))),[]):=by
 refine Ga pf559 pb559 ?_
 unfold pb559
 by_cases q:typF l = 1
 ·obtain ⟨hb,hr⟩:=offs_rng q
  have q2:=(typ1 q).2.1
  have hol:(offsF l).length = l.length:=by simp [offsF]
  have ho2:(offsF l).length≤1048576:=by omega
  have he:encF l = encN (baseF l) ++ wfF 0 (offsF l) :: packF (offsF l) (wfF 0 (offsF l)):=by simp [encF,q]
  have hwr:=wf_rng (offsF l)
  obtain ⟨w,hw⟩:∃ w,w = wfF 0 (offsF l):=⟨_,rfl⟩
  have hpl:=packF_len (offsF l) w
  obtain ⟨p,hp⟩:∃ p,p = packF (offsF l) w:=⟨_,rfl⟩
  rw [← hw] at he hwr
  rw [← hp] at he hpl
  have hu:IntKind.wrap .u8 w = w:=wrap_u8 (by omega) (by omega)
  have hn:=encN_len (baseF l)
  have r1:((encN (baseF l)).length + 1) * 1≤70368744177664:=by omega
  have r2:(encN (baseF l)).length + 1≤70368744177664:=by omega
  have r3:(encN (baseF l)).length + 1 + p.length≤70368744177664:=by omega
  repeat' first|refine Zs ?_|((with_reducible refine Xk fun K k=>?_);simp [h,hs,q,ho2,← hw,← hp,hu,r1,r2,r3];refine k _ ?_;clear k K)|refine Xt rfl ?_|refine Xf rfl ?_|(refine We rfl ?_ ?_<;>(intro hc;(try simp at hc);(all_goals first|(exfalso;omega)|skip)))
  simp [pf559,he]
 ·have he:encF l = []:=by simp [encF,q]
  refine Uw (J4 h hs q he) ?_
  repeat intro hc
  simp [pf559,he]

@[simp] theorem t546 (k0:Bool) (l:List XVal) (h:l.length≤1048576) (hs:XVal.sms l):Gw TT 546 [.one (.ro k0 (.sl 3 (l.map XVal.e)))] = some (.one (.own (.sl 1 ((encF l).map eb))),[]):=by
 refine Ga pf546 pb546 ?_
 unfold pb546
 by_cases q:typF l = 1
 ·obtain ⟨hb,hr⟩:=offs_rng q
  have q2:=(typ1 q).2.1
  have hol:(offsF l).length = l.length:=by simp [offsF]
  have ho2:(offsF l).length≤1048576:=by omega
  have he:encF l = encN (baseF l) ++ wfF 0 (offsF l) :: packF (offsF l) (wfF 0 (offsF l)):=by simp [encF,q]
  have hwr:=wf_rng (offsF l)
  obtain ⟨w,hw⟩:∃ w,w = wfF 0 (offsF l):=⟨_,rfl⟩
  have hpl:=packF_len (offsF l) w
  obtain ⟨p,hp⟩:∃ p,p = packF (offsF l) w:=⟨_,rfl⟩
  rw [← hw] at he hwr
  rw [← hp] at he hpl
  have hu:IntKind.wrap .u8 w = w:=wrap_u8 (by omega) (by omega)
  have hn:=encN_len (baseF l)
  have r1:((encN (baseF l)).length + 1) * 1≤70368744177664:=by omega
  have r2:(encN (baseF l)).length + 1≤70368744177664:=by omega
  have r3:(encN (baseF l)).length + 1 + p.length≤70368744177664:=by omega
  repeat' first|refine Zs ?_|((with_reducible refine Xk fun K k=>?_);simp [h,hs,q,ho2,← hw,← hp,hu,r1,r2,r3];refine k _ ?_;clear k K)|refine Xt rfl ?_|refine Xf rfl ?_|(refine We rfl ?_ ?_<;>(intro hc;(try simp at hc);(all_goals first|(exfalso;omega)|skip)))
  simp [pf546,he]
 ·have he:encF l = []:=by simp [encF,q]
  refine Uw (J4 h hs q he) ?_
  repeat intro hc
  simp [pf546,he]

theorem raiseL_no {base x:Int} {l:List Int} {a:List XVal} (h:¬ ((0≤x∧x≤2000000000)∧base + x≤1000000000)):preO a (raiseL base (x :: l)) = none:=by
  simp only [raiseL]; rw [if_neg h]; try rfl

theorem raiseL_yes {base x:Int} {l:List Int} {a:List XVal} (h:(0≤x∧x≤2000000000)∧base + x≤1000000000):preO a (raiseL base (x :: l)) = preO (a ++ [⟨1,base + x,⟨#[]⟩⟩]) (raiseL base l):=by
  simp only [raiseL]; rw [if_pos h]
  cases raiseL base l with
  | none => rfl
  | some p => simp [preO]

theorem raiseL_sms {base:Int}:∀ {l:List Int} {r:List XVal},raiseL base l = some r→XVal.sms r
  | [],r,h,v,hv => by simp [raiseL] at h; subst h; simp at hv
  | x :: l,r,h,v,hv => by
    simp only [raiseL] at h
    split at h
    · split at h
      · rename_i q hq
        simp at h; subst h
        rcases List.mem_cons.1 hv with rfl | hv
        · simp only [XVal.sm]; decide
        · exact raiseL_sms hq v hv
      · cases h
    · cases h

@[simp] theorem t558 (k1:Bool) (base:Int) (l:List Int) (h2:l.length≤1048576):Gw TT 558 [vi base,.one (.ro k1 (.sl 1 (l.map ei)))] = some (odV (raiseF base l),[]):=by
  refine Ga pf558 pb558 ?_
  unfold pb558
  cases hb:numB base with
  | false =>
    have hr:raiseF base l = none:=by unfold raiseF; rw [hb]; try rfl
    rcases l with _ | ⟨x,l⟩
    · repeat' (first
        | with_reducible (first | refine wp_seq ?_ | refine wp_blk ?_ | refine wp_skip ?_ | refine wp_exit ?_ | refine wp_ret ?_ | refine seqQ_norm ?_ | refine seqQ_ret ?_ | refine seqQ_exit ?_ | refine blkQ_norm ?_ | refine blkQ_ret ?_ | refine blkQ_exit ?_ | refine loopQ_norm ?_ | refine loopQ_exit ?_ | refine loopQ_ret ?_ | refine endQ_ret ?_ | refine endQ_norm ?_ | refine endE_ret ?_ | refine endE_norm ?_ | refine endI_ret ?_ | refine endI_norm ?_)
        | (with_reducible refine wp_loop (c:=pl558_0) ?_
           conv => arg 2; unfold pl558_0)
        | (with_reducible refine wp_regK fun K hK => ?_
           simp[hb,hr]
           repeat' (with_reducible first | refine hK _ ?_ | (refine psel ?_ ?_ <;> (intro hc; (try rw [Decidable.not_not] at hc); first | (exfalso; omega) | (try simp [hc,hb,hr]))))
           all_goals (clear hK; clear K))
        | (with_reducible refine wp_condE ?_
           refine ⟨_,rfl,?_,?_⟩ <;> (intro hc; (try simp at hc); (all_goals first | (exfalso; omega) | skip))))
      simp [pf558,hr]
    · repeat' (first
        | with_reducible (first | refine wp_seq ?_ | refine wp_blk ?_ | refine wp_skip ?_ | refine wp_exit ?_ | refine wp_ret ?_ | refine seqQ_norm ?_ | refine seqQ_ret ?_ | refine seqQ_exit ?_ | refine blkQ_norm ?_ | refine blkQ_ret ?_ | refine blkQ_exit ?_ | refine loopQ_norm ?_ | refine loopQ_exit ?_ | refine loopQ_ret ?_ | refine endQ_ret ?_ | refine endQ_norm ?_ | refine endE_ret ?_ | refine endE_norm ?_ | refine endI_ret ?_ | refine endI_norm ?_)
        | (with_reducible refine wp_loop (c:=pl558_0) ?_
           conv => arg 2; unfold pl558_0)
        | (with_reducible refine wp_regK fun K hK => ?_
           simp[hb,hr]
           repeat' (with_reducible first | refine hK _ ?_ | (refine psel ?_ ?_ <;> (intro hc; (try rw [Decidable.not_not] at hc); first | (exfalso; omega) | (try simp [hc,hb,hr]))))
           all_goals (clear hK; clear K))
        | (with_reducible refine wp_condE ?_
           refine ⟨_,rfl,?_,?_⟩ <;> (intro hc; (try simp at hc); (all_goals first | (exfalso; omega) | skip))))
      simp [pf558,hr]
  | true =>
    have hb2:=hb
    simp only [numB,Bool.and_eq_true,decide_eq_true_eq] at hb2
    have hr:raiseF base l = raiseL base l:=by unfold raiseF; rw [hb]; try rfl
    rw [hr]
    refine Ua hb ?_
    refine wp_loopI (σ:=List Int × List Int × List XVal) (fun s => [(0,AV.v false (di base),none),(6,AV.pl 6 0 [],some (Rt.vir [C.own (D.sl 3 ((s.2.2).map XVal.e))])),(13,AV.v k1 (D.sl 1 (l.map ei)),none),(14,AV.v false (di (l.length:Nat)),none),(15,AV.v false (di ((s.1.length:Nat):Int)),none)]) (fun s => l = s.1 ++ s.2.1∧raiseL base l = preO s.2.2 (raiseL base s.2.1)∧s.2.2.length≤s.1.length) (fun s => s.2.1.length) ([],l,[]) (by simp) ⟨rfl,by rw [preO_nil],by simp⟩ ?_
    rintro ⟨pre,rest,a⟩ ⟨y1,y2,y4⟩
    simp only at y1 y2 y4
    have y3:l.length = pre.length + rest.length:=by rw [y1,List.length_append]
    rcases rest with _ | ⟨x,rest⟩
    · simp only [List.length_nil] at y3
      simp only [raiseL,preO_some,List.append_nil] at y2
      have c1:¬ (pre.length:Int) < (l.length:Int):=by omega
      unfold pl558_0
      refine Ua (J3 c1 y2 hb) ?_
      simp [pf558,y2]
    · simp only [List.length_cons] at y3
      have hg:l[pre.length]? = some x:=by rw [y1]; simp
      obtain ⟨hlt,hge⟩:=List.getElem?_eq_some_iff.1 hg
      have c1:(pre.length:Int) < (l.length:Int):=by omega
      have hw:IntKind.wrap .i64 ((pre.length:Int) + 1) = (pre.length:Int) + 1:=wrap_i64 (by omega) (by omega)
      have hq:(a.length + 1) * 32≤70368744177664:=by omega
      unfold pl558_0
      by_cases q1:0≤x∧x≤2000000000
      · have hw2:IntKind.wrap .i64 (base + x) = base + x:=wrap_i64 (by omega) (by omega)
        by_cases q2:base + x≤1000000000
        · have q3:¬ 1000000000 < base + x:=by omega
          rw [raiseL_yes ⟨q1,q2⟩] at y2
          refine Ua (J8 hg hge hlt c1 hw hw2 hq (J4 q1.1 q1.2 q3 hb)) ?_
          exact ⟨(pre ++ [x],rest,a ++ [⟨1,base + x,⟨#[]⟩⟩]),(by simp; try omega),⟨by rw [y1]; simp,y2,by simp; omega⟩,by simp⟩
        · have q3:1000000000 < base + x:=by omega
          rw [raiseL_no (fun e => q2 e.2)] at y2
          refine Ua (J8 hg hge hlt c1 hw hw2 q1.1 (J4 q1.2 q3 y2 hb)) ?_
          simp [pf558,y2]
      · rw [raiseL_no (fun e => q1 e.1)] at y2
        by_cases q2:0≤x
        · have q3:¬ x≤2000000000:=by omega
          refine Ua (J8 hg hge hlt c1 hw q2 q3 (J2 y2 hb)) ?_
          simp [pf558,y2]
        · refine Ua (J8 hg hge hlt c1 hw q2 y2 hb) ?_
          simp [pf558,y2]

@[simp] theorem t545 (k1:Bool) (base:Int) (l:List Int) (h2:l.length≤1048576):Gw TT 545 [vi base,.one (.ro k1 (.sl 1 (l.map ei)))] = some (odV (raiseF base l),[]):=by
  refine Ga pf545 pb545 ?_
  unfold pb545
  cases hb:numB base with
  | false =>
    have hr:raiseF base l = none:=by unfold raiseF; rw [hb]; try rfl
    rcases l with _ | ⟨x,l⟩
    · repeat' (first
        | with_reducible (first | refine wp_seq ?_ | refine wp_blk ?_ | refine wp_skip ?_ | refine wp_exit ?_ | refine wp_ret ?_ | refine seqQ_norm ?_ | refine seqQ_ret ?_ | refine seqQ_exit ?_ | refine blkQ_norm ?_ | refine blkQ_ret ?_ | refine blkQ_exit ?_ | refine loopQ_norm ?_ | refine loopQ_exit ?_ | refine loopQ_ret ?_ | refine endQ_ret ?_ | refine endQ_norm ?_ | refine endE_ret ?_ | refine endE_norm ?_ | refine endI_ret ?_ | refine endI_norm ?_)
        | (with_reducible refine wp_loop (c:=pl545_0) ?_
           conv => arg 2; unfold pl545_0)
        | (with_reducible refine wp_regK fun K hK => ?_
           simp[hb,hr]
           repeat' (with_reducible first | refine hK _ ?_ | (refine psel ?_ ?_ <;> (intro hc; (try rw [Decidable.not_not] at hc); first | (exfalso; omega) | (try simp [hc,hb,hr]))))
           all_goals (clear hK; clear K))
        | (with_reducible refine wp_condE ?_
           refine ⟨_,rfl,?_,?_⟩ <;> (intro hc; (try simp at hc); (all_goals first | (exfalso; omega) | skip))))
      simp [pf545,hr]
    · repeat' (first
        | with_reducible (first | refine wp_seq ?_ | refine wp_blk ?_ | refine wp_skip ?_ | refine wp_exit ?_ | refine wp_ret ?_ | refine seqQ_norm ?_ | refine seqQ_ret ?_ | refine seqQ_exit ?_ | refine blkQ_norm ?_ | refine blkQ_ret ?_ | refine blkQ_exit ?_ | refine loopQ_norm ?_ | refine loopQ_exit ?_ | refine loopQ_ret ?_ | refine endQ_ret ?_ | refine endQ_norm ?_ | refine endE_ret ?_ | refine endE_norm ?_ | refine endI_ret ?_ | refine endI_norm ?_)
        | (with_reducible refine wp_loop (c:=pl545_0) ?_
           conv => arg 2; unfold pl545_0)
        | (with_reducible refine wp_regK fun K hK => ?_
           simp[hb,hr]
           repeat' (with_reducible first | refine hK _ ?_ | (refine psel ?_ ?_ <;> (intro hc; (try rw [Decidable.not_not] at hc); first | (exfalso; omega) | (try simp [hc,hb,hr]))))
           all_goals (clear hK; clear K))
        | (with_reducible refine wp_condE ?_
           refine ⟨_,rfl,?_,?_⟩ <;> (intro hc; (try simp at hc); (all_goals first | (exfalso; omega) | skip))))
      simp [pf545,hr]
  | true =>
    have hb2:=hb
    simp only [numB,Bool.and_eq_true,decide_eq_true_eq] at hb2
    have hr:raiseF base l = raiseL base l:=by unfold raiseF; rw [hb]; try rfl
    rw [hr]
    refine Ua hb ?_
    refine wp_loopI (σ:=List Int × List Int × List XVal) (fun s => [(0,AV.v false (di base),none),(1,AV.v k1 (D.sl 1 (l.map ei)),none),(6,AV.pl 6 0 [],some (Rt.vir [C.own (D.sl 3 ((s.2.2).map XVal.e))])),(7,AV.v false (di ((s.1.length:Nat):Int)),none)]) (fun s => l = s.1 ++ s.2.1∧raiseL base l = preO s.2.2 (raiseL base s.2.1)∧s.2.2.length≤s.1.length) (fun s => s.2.1.length) ([],l,[]) (by simp) ⟨rfl,by rw [preO_nil],by simp⟩ ?_
    rintro ⟨pre,rest,a⟩ ⟨y1,y2,y4⟩
    simp only at y1 y2 y4
    have y3:l.length = pre.length + rest.length:=by rw [y1,List.length_append]
    rcases rest with _ | ⟨x,rest⟩
    · simp only [List.length_nil] at y3
      simp only [raiseL,preO_some,List.append_nil] at y2
      have c1:¬ (pre.length:Int) < (l.length:Int):=by omega
      unfold pl545_0
      refine Ua (J3 c1 y2 hb) ?_
      simp [pf545,y2]
    · simp only [List.length_cons] at y3
      have hg:l[pre.length]? = some x:=by rw [y1]; simp
      obtain ⟨hlt,hge⟩:=List.getElem?_eq_some_iff.1 hg
      have c1:(pre.length:Int) < (l.length:Int):=by omega
      have hw:IntKind.wrap .i64 ((pre.length:Int) + 1) = (pre.length:Int) + 1:=wrap_i64 (by omega) (by omega)
      have hq:(a.length + 1) * 32≤70368744177664:=by omega
      unfold pl545_0
      by_cases q1:0≤x∧x≤2000000000
      · have hw2:IntKind.wrap .i64 (base + x) = base + x:=wrap_i64 (by omega) (by omega)
        by_cases q2:base + x≤1000000000
        · have q3:¬ 1000000000 < base + x:=by omega
          rw [raiseL_yes ⟨q1,q2⟩] at y2
          refine Ua (J8 hg hge hlt c1 hw hw2 hq (J4 q1.1 q1.2 q3 hb)) ?_
          exact ⟨(pre ++ [x],rest,a ++ [⟨1,base + x,⟨#[]⟩⟩]),(by simp; try omega),⟨by rw [y1]; simp,y2,by simp; omega⟩,by simp⟩
        · have q3:1000000000 < base + x:=by omega
          rw [raiseL_no (fun e => q2 e.2)] at y2
          refine Ua (J8 hg hge hlt c1 hw hw2 q1.1 (J4 q1.2 q3 y2 hb)) ?_
          simp [pf545,y2]
      · rw [raiseL_no (fun e => q1 e.1)] at y2
        by_cases q2:0≤x
        · have q3:¬ x≤2000000000:=by omega
          refine Ua (J8 hg hge hlt c1 hw q2 q3 (J2 y2 hb)) ?_
          simp [pf545,y2]
        · refine Ua (J8 hg hge hlt c1 hw q2 y2 hb) ?_
          simp [pf545,y2]

theorem decF_out {b:List Int} {k:Int} (hk:¬ (1≤k∧k≤64)):decF b k = none:=by
  unfold decF
  split
  · split
    · split
      · split
        · unfold chkE; rw [if_neg (fun e => hk e.1)]
        · rfl
      · rfl
    · rfl
  · rfl

theorem decF_run {b:List Int} {k n u w:Int} (hg:gN b 0 = some (n,u)) (hw:b[u.toNat]? = some w):decF b k = match unpF (b.drop (u + 1).toNat) w k with
    | some p => (match raiseF n p with
      | some l => chkE b k encF l
      | none => none)
    | none => none:=by
  unfold decF
  rw [hg]
  simp only
  rw [hw]
  try rfl

theorem raiseF_props {n:Int} {p:List Int} {l:List XVal} (h:raiseF n p = some l):l.length = p.length∧XVal.sms l:=by
  unfold raiseF at h
  split at h
  · exact ⟨raiseL_len n h,raiseL_sms h⟩
  · cases h

@[simp] theorem t525 (k0:Bool) (b:List Int) (k:Int) (h:b.length≤1048576) (hb:bytesOk b):Gw TT 525 [.one (.ro k0 (.sl 1 (b.map eb))),vi k] = some (odV (decF b k),[]):=by
  refine Ga pf525 pb525 ?_
  unfold pb525
  cases hg:gN b 0 with
  | none =>
    have hd:decF b k = none:=by unfold decF; rw [hg]
    refine Ua (J4 h hb hg hd) ?_
    simp [pf525,hd]
  | some q =>
    obtain ⟨n,u⟩:=q
    obtain ⟨_,_,hu1,hu2,_⟩:=gN_can hb hg
    obtain ⟨un,rfl⟩:=Int.eq_ofNat_of_zero_le (show 0≤u by omega)
    by_cases gg:(un:Int) < (b.length:Int)
    · skip
      have g1:un < b.length:=by omega
      have g2:¬ (b.length:Int)≤(un:Int):=by omega
      have g3:(un:Int) < (b.length:Int):=by omega
      obtain ⟨w,hw⟩:∃ w,b[un]? = some w:=⟨_,List.getElem?_eq_getElem g1⟩
      have hwe:=(List.getElem?_eq_some_iff.1 hw).2
      have hw0:=hb w (List.mem_of_getElem? hw)
      have hwi:IntKind.wrap .i64 w = w:=wrap_i64 (by omega) (by omega)
      have s0:IntKind.wrap .i64 ((un:Int) + 1) = (un:Int) + 1:=wrap_i64 (by omega) (by omega)
      have s1:(0:Int)≤(un:Int) + 1:=by omega
      have s2:(un:Int) + 1≤(b.length:Int):=by omega
      have s3:un + 1≤b.length:=by omega
      have s4:((un:Int) + 1).toNat = un + 1:=by omega
      have hdr:=decF_run (k:=k) hg (by simpa using hw)
      rw [s4] at hdr
      have s5:(b.drop (un + 1)).length≤1048576:=by simp; omega
      have s6:=bytesOk_drop (un + 1) hb
      obtain ⟨B,hB⟩:∃ B,B = b.drop (un + 1):=⟨_,rfl⟩
      rw [← hB] at hdr s5 s6
      have s9:List.drop (un + 1) (List.map eb b) = List.map eb B:=by rw [hB,List.map_drop]
      cases hun:unpF B w k with
      | none =>
        rw [hun] at hdr
        simp only at hdr
        refine Ua (J8 h hb hg g1 g2 g3 hw (J8 hwe hwi s0 s1 s2 s3 s4 (J5 s5 s6 s9 hun hdr))) ?_
        simp [pf525,hdr]
      | some p =>
        have hpl:=unpF_len hun
        rw [hun] at hdr
        simp only at hdr
        have hk64:k≤64:=by
          have:=hun
          unfold unpF at this
          split at this
          · rename_i hh; exact hh.1.2.2
          · cases this
        have pl2:p.length≤1048576:=by omega
        cases hpi:raiseF n p with
        | none =>
          rw [hpi] at hdr
          simp only at hdr
          obtain ⟨us,hu⟩:=u527 k0 true b k [] encF hb (encF_ok [])
          have he:=t559 true [] (by simp) (fun v hv => by simp at hv)
          have hn:encF [] = []:=rfl
          rw [chkE_nil] at hu
          simp only [hn,List.map_nil] at hu he
          refine Ua (J8 h hb hg g1 g2 g3 hw (J8 hwe hwi s0 s1 s2 s3 s4 (J8 s5 s6 s9 hun pl2 hpi he (J2 hu hdr)))) ?_
          simp [pf525,hdr]
        | some l =>
          rw [hpi] at hdr
          simp only at hdr
          obtain ⟨hll,hls⟩:=raiseF_props hpi
          have hl2:l.length≤1048576:=by omega
          obtain ⟨us,hu⟩:=u527 k0 true b k l encF hb (encF_ok l)
          rw [hdr]
          cases hc:chkE b k encF l with
          | none =>
            rw [hc] at hu
            refine Ua (J8 h hb hg g1 g2 g3 hw (J8 hwe hwi s0 s1 s2 s3 s4 (J8 s5 s6 s9 hun pl2 hpi hls (J2 hl2 hu)))) ?_
            simp [pf525]
          | some l' =>
            rw [hc] at hu
            refine Ua (J8 h hb hg g1 g2 g3 hw (J8 hwe hwi s0 s1 s2 s3 s4 (J8 s5 s6 s9 hun pl2 hpi hls (J2 hl2 hu)))) ?_
            simp [pf525]
    · have hd:decF b k = none:=by
        unfold decF; rw [hg]; simp only
        rw [List.getElem?_eq_none (by omega)]
      have g2:(b.length:Int)≤(un:Int):=by omega
      refine Ua (J5 h hb hg g2 hd) ?_
      simp [pf525,hd]

@[simp] theorem t517 (k0:Bool) (b:List Int) (k:Int) (h:b.length≤1048576) (hb:bytesOk b):Gw TT 517 [.one (.ro k0 (.sl 1 (b.map eb))),vi k] = some (odV (decF b k),[]):=by
  refine Ga pf517 pb517 ?_
  unfold pb517
  cases hg:gN b 0 with
  | none =>
    have hd:decF b k = none:=by unfold decF; rw [hg]
    refine Uw (J4 h hb hg hd) ?_
    simp [pf517,hd]
  | some q =>
    obtain ⟨n,u⟩:=q
    obtain ⟨_,_,hu1,hu2,_⟩:=gN_can hb hg
    obtain ⟨un,rfl⟩:=Int.eq_ofNat_of_zero_le (show 0≤u by omega)
    by_cases gg:(un:Int) < (b.length:Int)
    · by_cases q4:1≤k∧k≤64
      · skip
        have g1:un < b.length:=by omega
        have g2:¬ (b.length:Int)≤(un:Int):=by omega
        have g3:(un:Int) < (b.length:Int):=by omega
        obtain ⟨w,hw⟩:∃ w,b[un]? = some w:=⟨_,List.getElem?_eq_getElem g1⟩
        have hwe:=(List.getElem?_eq_some_iff.1 hw).2
        have hw0:=hb w (List.mem_of_getElem? hw)
        have hwi:IntKind.wrap .i64 w = w:=wrap_i64 (by omega) (by omega)
        have s0:IntKind.wrap .i64 ((un:Int) + 1) = (un:Int) + 1:=wrap_i64 (by omega) (by omega)
        have s1:(0:Int)≤(un:Int) + 1:=by omega
        have s2:(un:Int) + 1≤(b.length:Int):=by omega
        have s3:un + 1≤b.length:=by omega
        have s4:((un:Int) + 1).toNat = un + 1:=by omega
        have hdr:=decF_run (k:=k) hg (by simpa using hw)
        rw [s4] at hdr
        have s5:(b.drop (un + 1)).length≤1048576:=by simp; omega
        have s6:=bytesOk_drop (un + 1) hb
        obtain ⟨B,hB⟩:∃ B,B = b.drop (un + 1):=⟨_,rfl⟩
        rw [← hB] at hdr s5 s6
        have s9:List.drop (un + 1) (List.map eb b) = List.map eb B:=by rw [hB,List.map_drop]
        cases hun:unpF B w k with
        | none =>
          rw [hun] at hdr
          simp only at hdr
          have hrn:∃ r,Gw TT 545 [vi n,.one (.ro true (.sl 1 []))] = some (odV r,[]):=by
            have:=t545 true n [] (by simp)
            exact ⟨_,by simpa using this⟩
          obtain ⟨r,hrr⟩:=hrn
          cases r with
          | none =>
            refine Uw (J8 h hb hg g1 g2 g3 hw (J8 hwe hwi s0 s1 s2 s3 s4 (J8 s5 s6 s9 q4.1 q4.2 hun hrr hdr))) ?_
            simp [pf517,hdr]
          | some r =>
            refine Uw (J8 h hb hg g1 g2 g3 hw (J8 hwe hwi s0 s1 s2 s3 s4 (J8 s5 s6 s9 q4.1 q4.2 hun hrr hdr))) ?_
            simp [pf517,hdr]
        | some p =>
          have hpl:=unpF_len hun
          rw [hun] at hdr
          simp only at hdr
          have pl2:p.length≤1048576:=by omega
          cases hpi:raiseF n p with
          | none =>
            rw [hpi] at hdr
            simp only at hdr
            refine Uw (J8 h hb hg g1 g2 g3 hw (J8 hwe hwi s0 s1 s2 s3 s4 (J8 s5 s6 s9 q4.1 q4.2 hun pl2 (J2 hpi hdr)))) ?_
            simp [pf517,hdr]
          | some l =>
            rw [hpi] at hdr
            simp only at hdr
            obtain ⟨hll,hls⟩:=raiseF_props hpi
            have hl2:l.length≤1048576:=by omega
            have hlk:(l.length:Int) = k:=by omega
            have hse:=strEq (encF_ok l) hb
            by_cases e3:encF l = b
            · have e4:((strOf (encF l)).toList == (strOf b).toList) = true:=by rw [hse]; simpa using e3
              have hd2:decF b k = some l:=by rw [hdr]; unfold chkE; rw [if_pos ⟨q4,hlk,e3.symm⟩]
              refine Uw (J8 h hb hg g1 g2 g3 hw (J8 hwe hwi s0 s1 s2 s3 s4 (J8 s5 s6 s9 q4.1 q4.2 hun pl2 (J5 hpi hls hl2 e4 hd2)))) ?_
              simp [pf517,hd2]
            · have e4:((strOf (encF l)).toList == (strOf b).toList) = false:=by rw [hse]; simpa using e3
              have hd2:decF b k = none:=by rw [hdr]; unfold chkE; rw [if_neg (fun e => e3 e.2.2.symm)]
              refine Uw (J8 h hb hg g1 g2 g3 hw (J8 hwe hwi s0 s1 s2 s3 s4 (J8 s5 s6 s9 q4.1 q4.2 hun pl2 (J5 hpi hls hl2 e4 hd2)))) ?_
              simp [pf517,hd2]
      · have hd:=decF_out (b:=b) q4
        have g2:¬ (b.length:Int)≤(un:Int):=by omega
        refine Uw (J5 h hb hg g2 hd) ?_
        repeat intro hc
        simp [pf517,hd]
    · have hd:decF b k = none:=by
        unfold decF; rw [hg]; simp only
        rw [List.getElem?_eq_none (by omega)]
      have g2:(b.length:Int)≤(un:Int):=by omega
      refine Uw (J5 h hb hg g2 hd) ?_
      simp [pf517,hd]

@[simp] theorem t561 (k1:Bool) (kd:Int) (l:List XVal) (h:l.length≤1048576) (hs:XVal.sms l):Gw TT 561 [vi kd,.one (.ro k1 (.sl 3 (l.map XVal.e)))] = some (.one (.own (.sl 1 ((encBy kd l).map eb))),[]):=by
 refine Ga pf561 pb561 ?_
 unfold pb561
 by_cases q0:kd = 0
 ·subst q0
  refine Uw (J2 h hs) ?_
  simp [pf561,encBy]
 ·by_cases q1:kd = 1
  ·subst q1
   refine Uw (J2 h hs) ?_
   simp [pf561,encBy]
  ·by_cases q2:kd = 2
   ·subst q2
    refine Uw (J2 h hs) ?_
    simp [pf561,encBy]
   ·by_cases q3:kd = 3
    ·subst q3
     refine Uw (J2 h hs) ?_
     simp [pf561,encBy]
    ·refine Uw (J4 q0 q1 q2 q3) ?_
     repeat intro hc
     simp [pf561,encBy,q0,q1,q2,q3]

@[simp] theorem t548 (k1:Bool) (kd:Int) (l:List XVal) (h:l.length≤1048576) (hs:XVal.sms l):Gw TT 548 [vi kd,.one (.ro k1 (.sl 3 (l.map XVal.e)))] = some (.one (.own (.sl 1 ((encBy kd l).map eb))),[]):=by
 refine Ga pf548 pb548 ?_
 unfold pb548
 by_cases q0:kd = 0
 ·subst q0
  refine Uw (J2 h hs) ?_
  simp [pf548,encBy]
 ·by_cases q1:kd = 1
  ·subst q1
   refine Uw (J2 h hs) ?_
   simp [pf548,encBy]
  ·by_cases q2:kd = 2
   ·subst q2
    refine Uw (J2 h hs) ?_
    simp [pf548,encBy]
   ·by_cases q3:kd = 3
    ·subst q3
     refine Uw (J2 h hs) ?_
     simp [pf548,encBy]
    ·refine Uw (J4 q0 q1 q2 q3) ?_
     repeat intro hc
     simp [pf548,encBy,q0,q1,q2,q3]

def bK (l:List XVal):Nat→Int
 | 0 => 0
 | n + 1 => if ((n:Int) + 1 ≠ 3 ∨ typF l = 1)∧lenBy ((n:Int) + 1) l < lenBy (bK l n) l then (n:Int) + 1 else bK l n

theorem bK_best {l:List XVal} (h:typF l ≠ 0):bestF l = bK l 3:=by
 have e1:bK l 1 = if lenBy 1 l < lenBy 0 l then 1 else 0:=by simp [bK]
 have e2:bK l 2 = if lenBy 2 l < lenBy (bK l 1) l then 2 else bK l 1:=by
  show (if (((1:Nat):Int) + 1 ≠ 3 ∨ typF l = 1)∧lenBy (((1:Nat):Int) + 1) l < lenBy (bK l 1) l then ((1:Nat):Int) + 1 else bK l 1) = _
  simp
 have e3:bK l 3 = if typF l = 1∧lenBy 3 l < lenBy (bK l 2) l then 3 else bK l 2:=by simp [bK]
 unfold bestF
 simp only [if_neg h]
 rw [e3,e2,e1]

end Go.Proofs.YtcgekefbkccelaaGreat.OM
