/- What the functions answer. -/
import Derived.Test.YtcgekefbkccelaaGreatXRowAtLm1
set_option linter.all false
namespace Go.Proofs.YtcgekefbkccelaaGreat.OM
set_option maxHeartbeats 4000000
set_option maxRecDepth 100000

@[simp] theorem t560 (k0:Bool) (l:List XVal) (h:l.length≤1048576) (hs:XVal.sms l):Gw TT 560 [.one (.ro k0 (.sl 3 (l.map XVal.e)))] = some (vi (bestF l),[]):=by
 refine Ga pf560 pb560 ?_
 unfold pb560
 by_cases q:typF l = 0
 ·have hb:bestF l = -1:=by unfold bestF; simp [q]
  refine Uw (J4 h hs q hb) ?_
  simp [pf560,hb]
 ·have hb:=bK_best q
  have hty:=(typF_ne q).2.2.2
  refine Uw (J3 h hs q) ?_
  repeat intro hc
  refine wp_loopI (σ:=Nat) (fun s => [(0,AV.v k0 (D.sl 3 (l.map XVal.e)),none),(3,AV.v false (di (typF l)),none),(4,AV.v false (di (bK l s)),none),(5,AV.v false (di ((s:Int) + 1)),none)]) (fun s => s≤3) (fun s => 3 - s) 0 (by simp [bK]) (by omega) ?_
  intro s hs3
  have hw:=Wi ((s:Int) + 1 + 1)
  by_cases e:s = 3
  ·subst e
   unfold pl560_0
   refine Uw hb ?_
   simp [pf560,hb]
  ·have c1:(s:Int) + 1≤3:=by omega
   have hbs:bK l (s + 1) = if ((s:Int) + 1 ≠ 3 ∨ typF l = 1)∧lenBy ((s:Int) + 1) l < lenBy (bK l s) l then (s:Int) + 1 else bK l s:=rfl
   by_cases e2:s = 2
   ·subst e2
    simp only [show ((2:Nat):Int) + 1 = 3 by rfl,ne_eq,not_true_eq_false,false_or] at hbs
    by_cases t1:typF l = 1
    ·by_cases lt:lenBy 3 l < lenBy (bK l 2) l
     ·rw [if_pos ⟨t1,lt⟩] at hbs
      simp only [lenBy] at lt
      unfold pl560_0
      refine Uw (J5 h hs @t1 lt @lenBy.eq_1) ?_
      exact ⟨3,(by simp [hbs,t1,lenBy]; try omega),by omega,by simp⟩
     ·rw [if_neg (fun e => lt e.2)] at hbs
      simp only [lenBy] at lt
      unfold pl560_0
      refine Uw (J5 h hs @t1 lt @lenBy.eq_1) ?_
      exact ⟨3,(by simp [hbs,t1,lenBy]; try omega),by omega,by simp⟩
    ·rw [if_neg (fun e => t1 e.1)] at hbs
     unfold pl560_0
     refine Uw (J4 h hs @t1 @lenBy.eq_1) ?_
     repeat intro hc
     exact ⟨3,(by simp [hbs,lenBy]; try omega),by omega,by simp⟩
   ·have n3:¬ (s:Int) + 1 = 3:=by omega
    by_cases lt:lenBy ((s:Int) + 1) l < lenBy (bK l s) l
    ·rw [if_pos ⟨.inl n3,lt⟩] at hbs
     simp only [lenBy] at lt
     unfold pl560_0
     refine Uw (J7 h hs c1 n3 hw lt @lenBy.eq_1) ?_
     exact ⟨s + 1,(by simp [hbs,lenBy]; try omega),by omega,by show 3 - (s + 1) < 3 - s; omega⟩
    ·rw [if_neg (fun e => lt e.2)] at hbs
     simp only [lenBy] at lt
     unfold pl560_0
     refine Uw (J7 h hs c1 n3 hw lt @lenBy.eq_1) ?_
     exact ⟨s + 1,(by simp [hbs,lenBy]; try omega),by omega,by show 3 - (s + 1) < 3 - s; omega⟩

@[simp] theorem t547 (k0:Bool) (l:List XVal) (h:l.length≤1048576) (hs:XVal.sms l):Gw TT 547 [.one (.ro k0 (.sl 3 (l.map XVal.e)))] = some (vi (bestF l),[]):=by
 refine Ga pf547 pb547 ?_
 unfold pb547
 by_cases q:typF l = 0
 ·have hb:bestF l = -1:=by unfold bestF; simp [q]
  refine Uw (J4 h hs q hb) ?_
  simp [pf547,hb]
 ·have hb:=bK_best q
  have hty:=(typF_ne q).2.2.2
  refine Uw (J3 h hs q) ?_
  repeat intro hc
  refine wp_loopI (σ:=Nat) (fun s => [(0,AV.v k0 (D.sl 3 (l.map XVal.e)),none),(3,AV.v false (di (typF l)),none),(4,AV.v false (di (bK l s)),none),(5,AV.v false (di (lenBy (bK l s) l)),none),(6,AV.v false (di ((s:Int) + 1)),none)]) (fun s => s≤3) (fun s => 3 - s) 0 (by simp [bK,lenBy,encBy]) (by omega) ?_
  intro s hs3
  have hw:=Wi ((s:Int) + 1 + 1)
  by_cases e:s = 3
  ·subst e
   unfold pl547_0
   refine Uw hb ?_
   simp [pf547,hb]
  ·have c1:(s:Int) + 1≤3:=by omega
   have hbs:bK l (s + 1) = if ((s:Int) + 1 ≠ 3 ∨ typF l = 1)∧lenBy ((s:Int) + 1) l < lenBy (bK l s) l then (s:Int) + 1 else bK l s:=rfl
   by_cases e2:s = 2
   ·subst e2
    simp only [show ((2:Nat):Int) + 1 = 3 by rfl,ne_eq,not_true_eq_false,false_or] at hbs
    by_cases t1:typF l = 1
    ·by_cases lt:lenBy 3 l < lenBy (bK l 2) l
     ·rw [if_pos ⟨t1,lt⟩] at hbs
      simp only [lenBy] at lt
      unfold pl547_0
      refine Uw (J5 h hs @t1 lt @lenBy.eq_1) ?_
      exact ⟨3,(by simp [hbs,t1,lenBy]; try omega),by omega,by simp⟩
     ·rw [if_neg (fun e => lt e.2)] at hbs
      simp only [lenBy] at lt
      unfold pl547_0
      refine Uw (J5 h hs @t1 lt @lenBy.eq_1) ?_
      exact ⟨3,(by simp [hbs,t1,lenBy]; try omega),by omega,by simp⟩
    ·rw [if_neg (fun e => t1 e.1)] at hbs
     unfold pl547_0
     refine Uw (J4 h hs @t1 @lenBy.eq_1) ?_
     exact ⟨3,(by simp [hbs,lenBy]; try omega),by omega,by simp⟩
   ·have n3:¬ (s:Int) + 1 = 3:=by omega
    by_cases lt:lenBy ((s:Int) + 1) l < lenBy (bK l s) l
    ·rw [if_pos ⟨.inl n3,lt⟩] at hbs
     simp only [lenBy] at lt
     unfold pl547_0
     refine Uw (J7 h hs c1 n3 hw lt @lenBy.eq_1) ?_
     exact ⟨s + 1,(by simp [hbs,lenBy]; try omega),by omega,by show 3 - (s + 1) < 3 - s; omega⟩
    ·rw [if_neg (fun e => lt e.2)] at hbs
     simp only [lenBy] at lt
     unfold pl547_0
     refine Uw (J7 h hs c1 n3 hw lt @lenBy.eq_1) ?_
     exact ⟨s + 1,(by simp [hbs,lenBy]; try omega),by omega,by show 3 - (s + 1) < 3 - s; omega⟩

@[simp] theorem t528 (k0:Bool) (l:List XVal) (h:l.length≤1048576) (hs:XVal.sms l):Gw TT 528 [.one (.ro k0 (.sl 3 (l.map XVal.e)))] = some (.one (.own (.sl 1 ((encC l).map eb))),[]):=by
 refine Ga pf528 pb528 ?_
 unfold pb528
 have hr:=bestF_rng l
 by_cases q:bestF l < 0
 ·have he:encC l = []:=by simp [encC,q]
  refine Ua (J4 h hs q he) ?_
  simp [pf528,he]
 ·have he:encC l = bestF l :: encBy (bestF l) l:=by simp [encC,q]
  have hu:IntKind.wrap .u8 (bestF l) = bestF l:=wrap_u8 (by omega) (by omega)
  have hl:=encBy_len (bestF l) l
  obtain ⟨E,hE⟩:∃ E,E = encBy (bestF l) l:=⟨_,rfl⟩
  rw [← hE] at he hl
  have r1:(1 + E.length) * 1≤70368744177664:=by omega
  have r2:1 + E.length≤70368744177664:=by omega
  repeat' first|refine Zs ?_|((with_reducible refine Xk fun K k=>?_);simp [h,hs,q,hu,← hE,r1,r2];refine k _ ?_;clear k K)|refine Xt rfl ?_|refine Xf rfl ?_
  simp [pf528,he]

@[simp] theorem t519 (k0:Bool) (l:List XVal) (h:l.length≤1048576) (hs:XVal.sms l):Gw TT 519 [.one (.ro k0 (.sl 3 (l.map XVal.e)))] = some (.one (.own (.sl 1 ((encC l).map eb))),[]):=by
 refine Ga pf519 pb519 ?_
 unfold pb519
 have hr:=bestF_rng l
 by_cases q:bestF l < 0
 ·have he:encC l = []:=by simp [encC,q]
  refine Ua (J4 h hs q he) ?_
  simp [pf519,he]
 ·have he:encC l = bestF l :: encBy (bestF l) l:=by simp [encC,q]
  have hu:IntKind.wrap .u8 (bestF l) = bestF l:=wrap_u8 (by omega) (by omega)
  have hl:=encBy_len (bestF l) l
  obtain ⟨E,hE⟩:∃ E,E = encBy (bestF l) l:=⟨_,rfl⟩
  rw [← hE] at he hl
  have r1:(1 + E.length) * 1≤70368744177664:=by omega
  have r2:1 + E.length≤70368744177664:=by omega
  repeat' first|refine Zs ?_|((with_reducible refine Xk fun K k=>?_);simp [h,hs,q,hu,← hE,r1,r2];refine k _ ?_;clear k K)|refine Xt rfl ?_|refine Xf rfl ?_
  simp [pf519,he]

theorem decP_sms {b:List Int} {ty k:Int} {l:List XVal} (hb:bytesOk b) (h:decP b ty k = some l):XVal.sms l:=by
 unfold decP at h
 split at h
 ·split at h
  ·rename_i hg
   split at h
   ·simp at h; subst h
    exact (getVs_sms hb (Int.le_refl _) (by omega) hg).1
   ·cases h
  ·cases h
 ·cases h

theorem typF_sms {l:List XVal} (h:typF l ≠ 0):XVal.sms l:=fun v hv => by
 have:=typF_sz h v hv
 simp only [XVal.sm]; omega

theorem encE_ne {E:List XVal→List Int} {b:List Int} {k:Int} {l l':List XVal} (h0:typF l = 0→E l = []) (hb:b ≠ []) (h:chkE b k E l = some l'):typF l' ≠ 0:=by
 obtain ⟨rfl,_,_,he⟩:=chkE_some h
 intro e
 exact hb (he.trans (h0 e))

theorem gN_ne {b:List Int} {n t:Int} (h:gN b 0 = some (n,t)):b ≠ []:=by
 intro e; subst e
 unfold gN at h
 rw [if_neg (by simp)] at h; cases h

theorem decBy_sms {kd:Int} {b:List Int} {ty k:Int} {l:List XVal} (hb:bytesOk b) (h:decBy kd b ty k = some l):XVal.sms l:=by
 unfold decBy at h
 split at h
 ·exact decP_sms hb h
 split at h
 ·unfold decR at h
  split at h
  ·rename_i hg
   split at h
   ·split at h
    ·exact typF_sms (encE_ne (fun e => by simp [encR,e]) (gN_ne hg) h)
    ·cases h
   ·cases h
  ·cases h
 split at h
 ·unfold decD decDn at h
  split at h
  ·rename_i hg
   split at h
   ·split at h
    ·split at h
     ·split at h
      ·exact typF_sms (encE_ne (fun e => by simp [encD,e]) (gN_ne hg) h)
      ·cases h
     ·cases h
    ·cases h
   ·cases h
  ·cases h
 split at h
 ·unfold decF at h
  split at h
  ·rename_i hg
   split at h
   ·split at h
    ·split at h
     ·exact typF_sms (encE_ne (fun e => by simp [encF,e]) (gN_ne hg) h)
     ·cases h
    ·cases h
   ·cases h
  ·cases h
 cases h

theorem t496 (k0:Bool) (b:List Int) (ty k:Int) (h:b.length≤1048576) (hb:bytesOk b) (hty:ty = 1 ∨ ty = 2) (hk:1≤k∧k≤64):Gw TT 496 [.one (.ro k0 (.sl 1 (b.map eb))),vi ty,vi k] = some (odV (decC b ty k),[]):=by
 refine Ga pf496 pb496 ?_
 unfold pb496
 have hty1:(1:Int)≤ty:=by omega
 have hty2:ty≤2:=by omega
 have ht0:¬ 0 = ty:=by omega
 have ht1:=t526 true [] (by simp) (fun v hv => by simp at hv)
 have ht2:=t526 false [] (by simp) (fun v hv => by simp at hv)
 simp only [List.map_nil,typF] at ht1 ht2
 rcases b with _ | ⟨c,r⟩
 ·have hD:decC [] ty k = none:=rfl
  refine Uw hD ?_
  simp [pf496,hD]
 ·obtain ⟨b,hbe⟩:∃ b,b = c :: r:=⟨_,rfl⟩
  have hdc:decC b ty k = match decBy c r ty k with
   | some l => if typF l = ty∧b = encC l then some l else none
   | none => none:=by rw [hbe]; try rfl
  rw [← hbe] at h hb ⊢
  have hg0:b[0]? = some c:=by rw [hbe]; try rfl
  obtain ⟨hlt0,hge0⟩:=List.getElem?_eq_some_iff.1 hg0
  have hn:¬ (b.length:Int) = 0:=by omega
  have hn3:b ≠ []:=by rw [hbe]; simp
  have hn4:((b.length:Int) == 0) = false:=by simpa using hn3
  have hr6:bytesOk r:=fun x hx => hb x (by rw [hbe]; simp [hx])
  have hbl:b.length = r.length + 1:=by rw [hbe]; try rfl
  have hr5:r.length≤1048576:=by omega
  have hr7:=hb c (by rw [hbe]; simp)
  have s0:IntKind.wrap .i64 c = c:=wrap_i64 (by omega) (by omega)
  have s1:(1:Int)≤(b.length:Int):=by omega
  have s2:1≤b.length:=by omega
  have s3:(0:Int) < (b.length:Int):=by omega
  have s9:List.drop 1 (List.map eb b) = List.map eb r:=by rw [hbe]; try rfl
  by_cases n0:c = 0
  ·subst n0
   cases hd:decP r ty k with
   | none =>
    have hD:decC b ty k = none:=by rw [hdc]; simp only [decBy]; simp [hd]
    have hx:=t522 k0 r ty k hr5 hr6
    rw [hd] at hx
    refine Uw (J8 s0 s1 s2 s3 s9 hr5 hr6 (J8 hr7 hg0 hlt0 hge0 hn hn3 hn4 (J4 hx ht0 ht1 hD))) ?_
    repeat intro hc
    simp [pf496,hD]
   | some l =>
    have hby:decBy 0 r ty k = some l:=by simp only [decBy]; simpa using hd
    have hls:=decBy_sms hr6 hby
    have hll:=decBy_len hr6 hby
    have hl2:l.length≤1048576:=by omega
    have hx:=t522 k0 r ty k hr5 hr6
    rw [hd] at hx
    by_cases e1:typF l = ty
    ·obtain ⟨us,hu⟩:=u527 k0 true b k l encC hb (encC_ok l)
     have hc:decC b ty k = chkE b k encC l:=by
      rw [hdc,hby]; simp only
      unfold chkE
      by_cases e2:b = encC l
      ·rw [if_pos ⟨e1,e2⟩,if_pos ⟨hk,hll,e2⟩]
      ·rw [if_neg (fun e => e2 e.2),if_neg (fun e => e2 e.2.2)]
     rw [hc]
     cases hcc:chkE b k encC l with
     | none =>
      rw [hcc] at hu
      refine Uw (J8 s0 s1 s2 s3 s9 hr5 hr6 (J8 hr7 hg0 hlt0 hge0 hn hn3 hn4 (J5 hx hls hl2 e1 hu))) ?_
      simp [pf496]
     | some l' =>
      rw [hcc] at hu
      refine Uw (J8 s0 s1 s2 s3 s9 hr5 hr6 (J8 hr7 hg0 hlt0 hge0 hn hn3 hn4 (J5 hx hls hl2 e1 hu))) ?_
      simp [pf496]
    ·have hD:decC b ty k = none:=by rw [hdc,hby]; simp only; rw [if_neg (fun e => e1 e.1)]
     refine Uw (J8 s0 s1 s2 s3 s9 hr5 hr6 (J8 hr7 hg0 hlt0 hge0 hn hn3 hn4 (J5 hx hls hl2 e1 hD))) ?_
     repeat intro hc
     simp [pf496,hD]
  ·skip
   by_cases n1:c = 1
   ·subst n1
    cases hd:decR r ty k with
    | none =>
     have hD:decC b ty k = none:=by rw [hdc]; simp only [decBy]; simp [hd]
     have hx:=t523 k0 r ty k hr5 hr6
     rw [hd] at hx
     refine Uw (J8 s0 s1 s2 s3 s9 hr5 hr6 (J8 hr7 hg0 hlt0 hge0 hn hn3 hn4 (J4 hx ht0 ht1 hD))) ?_
     repeat intro hc
     simp [pf496,hD]
    | some l =>
     have hby:decBy 1 r ty k = some l:=by simp only [decBy]; simpa using hd
     have hls:=decBy_sms hr6 hby
     have hll:=decBy_len hr6 hby
     have hl2:l.length≤1048576:=by omega
     have hx:=t523 k0 r ty k hr5 hr6
     rw [hd] at hx
     by_cases e1:typF l = ty
     ·obtain ⟨us,hu⟩:=u527 k0 true b k l encC hb (encC_ok l)
      have hc:decC b ty k = chkE b k encC l:=by
       rw [hdc,hby]; simp only
       unfold chkE
       by_cases e2:b = encC l
       ·rw [if_pos ⟨e1,e2⟩,if_pos ⟨hk,hll,e2⟩]
       ·rw [if_neg (fun e => e2 e.2),if_neg (fun e => e2 e.2.2)]
      rw [hc]
      cases hcc:chkE b k encC l with
      | none =>
       rw [hcc] at hu
       refine Uw (J8 s0 s1 s2 s3 s9 hr5 hr6 (J8 hr7 hg0 hlt0 hge0 hn hn3 hn4 (J5 hx hls hl2 e1 hu))) ?_
       simp [pf496]
      | some l' =>
       rw [hcc] at hu
       refine Uw (J8 s0 s1 s2 s3 s9 hr5 hr6 (J8 hr7 hg0 hlt0 hge0 hn hn3 hn4 (J5 hx hls hl2 e1 hu))) ?_
       simp [pf496]
     ·have hD:decC b ty k = none:=by rw [hdc,hby]; simp only; rw [if_neg (fun e => e1 e.1)]
      refine Uw (J8 s0 s1 s2 s3 s9 hr5 hr6 (J8 hr7 hg0 hlt0 hge0 hn hn3 hn4 (J5 hx hls hl2 e1 hD))) ?_
      repeat intro hc
      simp [pf496,hD]
   ·skip
    by_cases n2:c = 2
    ·subst n2
     cases hd:decD r ty k with
     | none =>
      have hD:decC b ty k = none:=by rw [hdc]; simp only [decBy]; simp [hd]
      have hx:=t524 k0 r ty k hr5 hr6
      rw [hd] at hx
      refine Uw (J8 s0 s1 s2 s3 s9 hr5 hr6 (J8 hr7 hg0 hlt0 hge0 hn hn3 hn4 (J4 hx ht0 ht1 hD))) ?_
      repeat intro hc
      simp [pf496,hD]
     | some l =>
      have hby:decBy 2 r ty k = some l:=by simp only [decBy]; simpa using hd
      have hls:=decBy_sms hr6 hby
      have hll:=decBy_len hr6 hby
      have hl2:l.length≤1048576:=by omega
      have hx:=t524 k0 r ty k hr5 hr6
      rw [hd] at hx
      by_cases e1:typF l = ty
      ·obtain ⟨us,hu⟩:=u527 k0 true b k l encC hb (encC_ok l)
       have hc:decC b ty k = chkE b k encC l:=by
        rw [hdc,hby]; simp only
        unfold chkE
        by_cases e2:b = encC l
        ·rw [if_pos ⟨e1,e2⟩,if_pos ⟨hk,hll,e2⟩]
        ·rw [if_neg (fun e => e2 e.2),if_neg (fun e => e2 e.2.2)]
       rw [hc]
       cases hcc:chkE b k encC l with
       | none =>
        rw [hcc] at hu
        refine Uw (J8 s0 s1 s2 s3 s9 hr5 hr6 (J8 hr7 hg0 hlt0 hge0 hn hn3 hn4 (J5 hx hls hl2 e1 hu))) ?_
        simp [pf496]
       | some l' =>
        rw [hcc] at hu
        refine Uw (J8 s0 s1 s2 s3 s9 hr5 hr6 (J8 hr7 hg0 hlt0 hge0 hn hn3 hn4 (J5 hx hls hl2 e1 hu))) ?_
        simp [pf496]
      ·have hD:decC b ty k = none:=by rw [hdc,hby]; simp only; rw [if_neg (fun e => e1 e.1)]
       refine Uw (J8 s0 s1 s2 s3 s9 hr5 hr6 (J8 hr7 hg0 hlt0 hge0 hn hn3 hn4 (J5 hx hls hl2 e1 hD))) ?_
       repeat intro hc
       simp [pf496,hD]
    ·skip
     by_cases n3:c = 3
     ·subst n3
      cases hd:decF r k with
      | none =>
       have hD:decC b ty k = none:=by rw [hdc]; simp only [decBy]; simp [hd]
       have hx:=t525 k0 r k hr5 hr6
       rw [hd] at hx
       refine Uw (J8 s0 s1 s2 s3 s9 hr5 hr6 (J8 hr7 hg0 hlt0 hge0 hn hn3 hn4 (J4 hx ht0 ht1 hD))) ?_
       repeat intro hc
       simp [pf496,hD]
      | some l =>
       have hby:decBy 3 r ty k = some l:=by simp only [decBy]; simpa using hd
       have hls:=decBy_sms hr6 hby
       have hll:=decBy_len hr6 hby
       have hl2:l.length≤1048576:=by omega
       have hx:=t525 k0 r k hr5 hr6
       rw [hd] at hx
       by_cases e1:typF l = ty
       ·obtain ⟨us,hu⟩:=u527 k0 true b k l encC hb (encC_ok l)
        have hc:decC b ty k = chkE b k encC l:=by
         rw [hdc,hby]; simp only
         unfold chkE
         by_cases e2:b = encC l
         ·rw [if_pos ⟨e1,e2⟩,if_pos ⟨hk,hll,e2⟩]
         ·rw [if_neg (fun e => e2 e.2),if_neg (fun e => e2 e.2.2)]
        rw [hc]
        cases hcc:chkE b k encC l with
        | none =>
         rw [hcc] at hu
         refine Uw (J8 s0 s1 s2 s3 s9 hr5 hr6 (J8 hr7 hg0 hlt0 hge0 hn hn3 hn4 (J5 hx hls hl2 e1 hu))) ?_
         simp [pf496]
        | some l' =>
         rw [hcc] at hu
         refine Uw (J8 s0 s1 s2 s3 s9 hr5 hr6 (J8 hr7 hg0 hlt0 hge0 hn hn3 hn4 (J5 hx hls hl2 e1 hu))) ?_
         simp [pf496]
       ·have hD:decC b ty k = none:=by rw [hdc,hby]; simp only; rw [if_neg (fun e => e1 e.1)]
        refine Uw (J8 s0 s1 s2 s3 s9 hr5 hr6 (J8 hr7 hg0 hlt0 hge0 hn hn3 hn4 (J5 hx hls hl2 e1 hD))) ?_
        repeat intro hc
        simp [pf496,hD]
     ·skip
      have hD:decC b ty k = none:=by rw [hdc]; unfold decBy; rw [if_neg n0,if_neg n1,if_neg n2,if_neg n3]
      refine Uw (J8 s0 s1 s2 s3 s9 hr5 hr6 (J8 hr7 hg0 hlt0 hge0 hn hn3 hn4 (J8 n0 n1 n2 n3 ht0 ht2 ht1 hD))) ?_
      repeat intro hc
      simp [pf496,hD]

theorem t492 (k0:Bool) (b:List Int) (ty k:Int) (h:b.length≤1048576) (hb:bytesOk b) (hty:ty = 1 ∨ ty = 2) (hk:1≤k∧k≤64):Gw TT 492 [.one (.ro k0 (.sl 1 (b.map eb))),vi ty,vi k] = some (odV (decC b ty k),[]):=by
 refine Ga pf492 pb492 ?_
 unfold pb492
 have hty1:(1:Int)≤ty:=by omega
 have hty2:ty≤2:=by omega
 have ht0:¬ 0 = ty:=by omega
 have ht1:=t518 true [] (by simp) (fun v hv => by simp at hv)
 have ht2:=t518 false [] (by simp) (fun v hv => by simp at hv)
 simp only [List.map_nil,typF] at ht1 ht2
 rcases b with _ | ⟨c,r⟩
 ·have hD:decC [] ty k = none:=rfl
  refine Uw hD ?_
  simp [pf492,hD]
 ·obtain ⟨b,hbe⟩:∃ b,b = c :: r:=⟨_,rfl⟩
  have hdc:decC b ty k = match decBy c r ty k with
   | some l => if typF l = ty∧b = encC l then some l else none
   | none => none:=by rw [hbe]; try rfl
  rw [← hbe] at h hb ⊢
  have hg0:b[0]? = some c:=by rw [hbe]; try rfl
  obtain ⟨hlt0,hge0⟩:=List.getElem?_eq_some_iff.1 hg0
  have hn:¬ (b.length:Int) = 0:=by omega
  have hn3:b ≠ []:=by rw [hbe]; simp
  have hn4:((b.length:Int) == 0) = false:=by simpa using hn3
  have hr6:bytesOk r:=fun x hx => hb x (by rw [hbe]; simp [hx])
  have hbl:b.length = r.length + 1:=by rw [hbe]; try rfl
  have hr5:r.length≤1048576:=by omega
  have hr7:=hb c (by rw [hbe]; simp)
  have s0:IntKind.wrap .i64 c = c:=wrap_i64 (by omega) (by omega)
  have s1:(1:Int)≤(b.length:Int):=by omega
  have s2:1≤b.length:=by omega
  have s3:(0:Int) < (b.length:Int):=by omega
  have s9:List.drop 1 (List.map eb b) = List.map eb r:=by rw [hbe]; try rfl
  by_cases n0:c = 0
  ·subst n0
   cases hd:decP r ty k with
   | none =>
    have hD:decC b ty k = none:=by rw [hdc]; simp only [decBy]; simp [hd]
    have hx:=t514 k0 r ty k hr5 hr6
    rw [hd] at hx
    refine Uw (J8 s0 s1 s2 s3 s9 hr5 hr6 (J8 hr7 hg0 hlt0 hge0 hn hn3 hn4 (J6 hty1 hty2 hx ht0 ht1 hD))) ?_
    simp [pf492,hD]
   | some l =>
    have hby:decBy 0 r ty k = some l:=by simp only [decBy]; simpa using hd
    have hls:=decBy_sms hr6 hby
    have hll:=decBy_len hr6 hby
    have hl2:l.length≤1048576:=by omega
    have hx:=t514 k0 r ty k hr5 hr6
    rw [hd] at hx
    by_cases e1:typF l = ty
    ·have hse:=strEq (encC_ok l) hb
     by_cases e2:b = encC l
     ·have hD:decC b ty k = some l:=by rw [hdc,hby]; simp only; rw [if_pos ⟨e1,e2⟩]
      have e4:((strOf (encC l)).toList == (strOf b).toList) = true:=by rw [hse]; simpa using e2.symm
      refine Uw (J8 s0 s1 s2 s3 s9 hr5 hr6 (J8 hr7 hg0 hlt0 hge0 hn hn3 hn4 (J8 hty1 hty2 hx hls hl2 e1 e4 hD))) ?_
      simp [pf492,hD]
     ·have hD:decC b ty k = none:=by rw [hdc,hby]; simp only; rw [if_neg (fun e => e2 e.2)]
      have e4:((strOf (encC l)).toList == (strOf b).toList) = false:=by rw [hse]; simpa using fun e => e2 e.symm
      refine Uw (J8 s0 s1 s2 s3 s9 hr5 hr6 (J8 hr7 hg0 hlt0 hge0 hn hn3 hn4 (J8 hty1 hty2 hx hls hl2 e1 e4 hD))) ?_
      simp [pf492,hD]
    ·have hD:decC b ty k = none:=by rw [hdc,hby]; simp only; rw [if_neg (fun e => e1 e.1)]
     refine Uw (J8 s0 s1 s2 s3 s9 hr5 hr6 (J8 hr7 hg0 hlt0 hge0 hn hn3 hn4 (J7 hty1 hty2 hx hls hl2 e1 hD))) ?_
     simp [pf492,hD]
  ·skip
   by_cases n1:c = 1
   ·subst n1
    cases hd:decR r ty k with
    | none =>
     have hD:decC b ty k = none:=by rw [hdc]; simp only [decBy]; simp [hd]
     have hx:=t515 k0 r ty k hr5 hr6
     rw [hd] at hx
     refine Uw (J8 s0 s1 s2 s3 s9 hr5 hr6 (J8 hr7 hg0 hlt0 hge0 hn hn3 hn4 (J6 hty1 hty2 hx ht0 ht1 hD))) ?_
     simp [pf492,hD]
    | some l =>
     have hby:decBy 1 r ty k = some l:=by simp only [decBy]; simpa using hd
     have hls:=decBy_sms hr6 hby
     have hll:=decBy_len hr6 hby
     have hl2:l.length≤1048576:=by omega
     have hx:=t515 k0 r ty k hr5 hr6
     rw [hd] at hx
     by_cases e1:typF l = ty
     ·have hse:=strEq (encC_ok l) hb
      by_cases e2:b = encC l
      ·have hD:decC b ty k = some l:=by rw [hdc,hby]; simp only; rw [if_pos ⟨e1,e2⟩]
       have e4:((strOf (encC l)).toList == (strOf b).toList) = true:=by rw [hse]; simpa using e2.symm
       refine Uw (J8 s0 s1 s2 s3 s9 hr5 hr6 (J8 hr7 hg0 hlt0 hge0 hn hn3 hn4 (J8 hty1 hty2 hx hls hl2 e1 e4 hD))) ?_
       simp [pf492,hD]
      ·have hD:decC b ty k = none:=by rw [hdc,hby]; simp only; rw [if_neg (fun e => e2 e.2)]
       have e4:((strOf (encC l)).toList == (strOf b).toList) = false:=by rw [hse]; simpa using fun e => e2 e.symm
       refine Uw (J8 s0 s1 s2 s3 s9 hr5 hr6 (J8 hr7 hg0 hlt0 hge0 hn hn3 hn4 (J8 hty1 hty2 hx hls hl2 e1 e4 hD))) ?_
       simp [pf492,hD]
     ·have hD:decC b ty k = none:=by rw [hdc,hby]; simp only; rw [if_neg (fun e => e1 e.1)]
      refine Uw (J8 s0 s1 s2 s3 s9 hr5 hr6 (J8 hr7 hg0 hlt0 hge0 hn hn3 hn4 (J7 hty1 hty2 hx hls hl2 e1 hD))) ?_
      simp [pf492,hD]
   ·skip
    by_cases n2:c = 2
    ·subst n2
     cases hd:decD r ty k with
     | none =>
      have hD:decC b ty k = none:=by rw [hdc]; simp only [decBy]; simp [hd]
      have hx:=t516 k0 r ty k hr5 hr6
      rw [hd] at hx
      refine Uw (J8 s0 s1 s2 s3 s9 hr5 hr6 (J8 hr7 hg0 hlt0 hge0 hn hn3 hn4 (J6 hty1 hty2 hx ht0 ht1 hD))) ?_
      simp [pf492,hD]
     | some l =>
      have hby:decBy 2 r ty k = some l:=by simp only [decBy]; simpa using hd
      have hls:=decBy_sms hr6 hby
      have hll:=decBy_len hr6 hby
      have hl2:l.length≤1048576:=by omega
      have hx:=t516 k0 r ty k hr5 hr6
      rw [hd] at hx
      by_cases e1:typF l = ty
      ·have hse:=strEq (encC_ok l) hb
       by_cases e2:b = encC l
       ·have hD:decC b ty k = some l:=by rw [hdc,hby]; simp only; rw [if_pos ⟨e1,e2⟩]
        have e4:((strOf (encC l)).toList == (strOf b).toList) = true:=by rw [hse]; simpa using e2.symm
        refine Uw (J8 s0 s1 s2 s3 s9 hr5 hr6 (J8 hr7 hg0 hlt0 hge0 hn hn3 hn4 (J8 hty1 hty2 hx hls hl2 e1 e4 hD))) ?_
        simp [pf492,hD]
       ·have hD:decC b ty k = none:=by rw [hdc,hby]; simp only; rw [if_neg (fun e => e2 e.2)]
        have e4:((strOf (encC l)).toList == (strOf b).toList) = false:=by rw [hse]; simpa using fun e => e2 e.symm
        refine Uw (J8 s0 s1 s2 s3 s9 hr5 hr6 (J8 hr7 hg0 hlt0 hge0 hn hn3 hn4 (J8 hty1 hty2 hx hls hl2 e1 e4 hD))) ?_
        simp [pf492,hD]
      ·have hD:decC b ty k = none:=by rw [hdc,hby]; simp only; rw [if_neg (fun e => e1 e.1)]
       refine Uw (J8 s0 s1 s2 s3 s9 hr5 hr6 (J8 hr7 hg0 hlt0 hge0 hn hn3 hn4 (J7 hty1 hty2 hx hls hl2 e1 hD))) ?_
       simp [pf492,hD]
    ·skip
     by_cases n3:c = 3
     ·subst n3
      cases hd:decF r k with
      | none =>
       have hD:decC b ty k = none:=by rw [hdc]; simp only [decBy]; simp [hd]
       have hx:=t517 k0 r k hr5 hr6
       rw [hd] at hx
       refine Uw (J8 s0 s1 s2 s3 s9 hr5 hr6 (J8 hr7 hg0 hlt0 hge0 hn hn3 hn4 (J6 hty1 hty2 hx ht0 ht1 hD))) ?_
       simp [pf492,hD]
      | some l =>
       have hby:decBy 3 r ty k = some l:=by simp only [decBy]; simpa using hd
       have hls:=decBy_sms hr6 hby
       have hll:=decBy_len hr6 hby
       have hl2:l.length≤1048576:=by omega
       have hx:=t517 k0 r k hr5 hr6
       rw [hd] at hx
       by_cases e1:typF l = ty
       ·have hse:=strEq (encC_ok l) hb
        by_cases e2:b = encC l
        ·have hD:decC b ty k = some l:=by rw [hdc,hby]; simp only; rw [if_pos ⟨e1,e2⟩]
         have e4:((strOf (encC l)).toList == (strOf b).toList) = true:=by rw [hse]; simpa using e2.symm
         refine Uw (J8 s0 s1 s2 s3 s9 hr5 hr6 (J8 hr7 hg0 hlt0 hge0 hn hn3 hn4 (J8 hty1 hty2 hx hls hl2 e1 e4 hD))) ?_
         simp [pf492,hD]
        ·have hD:decC b ty k = none:=by rw [hdc,hby]; simp only; rw [if_neg (fun e => e2 e.2)]
         have e4:((strOf (encC l)).toList == (strOf b).toList) = false:=by rw [hse]; simpa using fun e => e2 e.symm
         refine Uw (J8 s0 s1 s2 s3 s9 hr5 hr6 (J8 hr7 hg0 hlt0 hge0 hn hn3 hn4 (J8 hty1 hty2 hx hls hl2 e1 e4 hD))) ?_
         simp [pf492,hD]
       ·have hD:decC b ty k = none:=by rw [hdc,hby]; simp only; rw [if_neg (fun e => e1 e.1)]
        refine Uw (J8 s0 s1 s2 s3 s9 hr5 hr6 (J8 hr7 hg0 hlt0 hge0 hn hn3 hn4 (J7 hty1 hty2 hx hls hl2 e1 hD))) ?_
        simp [pf492,hD]
     ·skip
      have hD:decC b ty k = none:=by rw [hdc]; unfold decBy; rw [if_neg n0,if_neg n1,if_neg n2,if_neg n3]
      refine Uw (J8 s0 s1 s2 s3 s9 hr5 hr6 (J8 hr7 hg0 hlt0 hge0 hn hn3 hn4 (J8 hty1 hty2 n0 n1 n2 n3 ht0 (J3 ht2 ht1 hD)))) ?_
      repeat intro hc
      simp [pf492,hD]

def encNs (l:List Int):List Int:=encN (l.length:Int) ++ l.flatMap encN

theorem numsF_can {b:List Int} (hb:bytesOk b):∀ {k:Nat} {u t:Int} {l:List Int},0≤u→u≤(b.length:Int)→numsF b k u = some (l,t) →
  l.length = k∧(∀ n ∈ l,-1000000000≤n∧n≤1000000000)∧u≤t∧t≤(b.length:Int)∧b.drop u.toNat = l.flatMap encN ++ b.drop t.toNat
 | 0,u,t,l,h0,h1,h => by
  simp only [numsF,Option.some.injEq,Prod.mk.injEq] at h
  obtain ⟨rfl,rfl⟩:=h
  exact ⟨rfl,by simp,by omega,h1,by simp⟩
 | k + 1,u,t,l,h0,h1,h => by
  simp only [numsF] at h
  split at h
  ·rename_i n t1 hv
   split at h
   ·rename_i l' t2 hl
    simp only [Option.some.injEq,Prod.mk.injEq] at h
    obtain ⟨rfl,rfl⟩:=h
    obtain ⟨a1,a2,a3,a4,a5⟩:=gN_can hb hv
    obtain ⟨b1,b2,b3,b4,b5⟩:=numsF_can hb (by omega) a4 hl
    refine ⟨by simp [b1],fun x hx => ?_,by omega,b4,?_⟩
    ·rcases List.mem_cons.1 hx with rfl | hx
     ·exact a1
     ·exact b2 x hx
    ·rw [a5,b5]; simp
   ·cases h
  ·cases h

theorem gNs_can {b:List Int} (hb:bytesOk b) {l:List Int} {t:Int} (h:gNs b 0 = some (l,t)) :
  l.length≤64∧(∀ n ∈ l,-1000000000≤n∧n≤1000000000)∧0≤t∧t≤(b.length:Int)∧b = encNs l ++ b.drop t.toNat:=by
 unfold gNs at h
 split at h
 ·rename_i k u hg
  split at h
  ·rename_i hk
   obtain ⟨a1,a2,a3,a4,a5⟩:=gN_can hb hg
   obtain ⟨b1,b2,b3,b4,b5⟩:=numsF_can hb (by omega) a4 h
   refine ⟨by omega,b2,by omega,b4,?_⟩
   simp only [Int.toNat_zero,List.drop_zero] at a5
   have e:(l.length:Int) = k:=by omega
   rw [encNs,e,List.append_assoc,← b5]
   exact a5
  ·cases h
 ·cases h

def colN (k:Nat) (l:List XRow):List XVal:=l.filterMap fun r => r.L[k]?
def addCol:List XRow→List XVal→List XRow
 | r :: rows,v :: vs => ⟨r.Id,r.L ++ [v]⟩ :: addCol rows vs
 | _,_ => []
def allL (j:Nat) (l:List XRow):Prop:=∀ r ∈ l,r.L.length = j

theorem addCol_len:∀ {rows:List XRow} {vs:List XVal},rows.length = vs.length→(addCol rows vs).length = rows.length
 | [],[],_ => rfl
 | [],_ :: _,h => by simp at h
 | _ :: _,[],h => by simp at h
 | r :: rows,v :: vs,h => by simp only [addCol,List.length_cons,addCol_len (rows:=rows) (vs:=vs) (by simpa using h)]
theorem addCol_ids:∀ {rows:List XRow} {vs:List XVal},rows.length = vs.length→(addCol rows vs).map (·.Id) = rows.map (·.Id)
 | [],[],_ => rfl
 | [],_ :: _,h => by simp at h
 | _ :: _,[],h => by simp at h
 | r :: rows,v :: vs,h => by simp only [addCol,List.map_cons,addCol_ids (rows:=rows) (vs:=vs) (by simpa using h)]
theorem addCol_all {j:Nat}:∀ {rows:List XRow} {vs:List XVal},allL j rows→allL (j + 1) (addCol rows vs)
 | [],_,_ => fun r hr => by simp [addCol] at hr
 | _ :: _,[],_ => fun r hr => by simp [addCol] at hr
 | r :: rows,v :: vs,h => fun x hx => by
  simp only [addCol] at hx
  rcases List.mem_cons.1 hx with rfl | hx
  ·have:=h r (by simp); simp [this]
  ·exact addCol_all (rows:=rows) (vs:=vs) (fun y hy => h y (by simp [hy])) x hx
theorem addCol_col {j:Nat}:∀ {rows:List XRow} {vs:List XVal},rows.length = vs.length→allL j rows→colN j (addCol rows vs) = vs
 | [],[],_,_ => rfl
 | [],_ :: _,h,_ => by simp at h
 | _ :: _,[],h,_ => by simp at h
 | r :: rows,v :: vs,h,ha => by
  have h1:=ha r (by simp)
  have ih:=addCol_col (rows:=rows) (vs:=vs) (by simpa using h) (fun y hy => ha y (by simp [hy]))
  simp only [colN] at ih
  simp only [colN,addCol]
  rw [List.filterMap_cons_some (b:=v) (by simp [← h1])]
  rw [ih]
theorem addCol_old {j k:Nat} (hk:k < j):∀ {rows:List XRow} {vs:List XVal},rows.length = vs.length→allL j rows→colN k (addCol rows vs) = colN k rows
 | [],[],_,_ => rfl
 | [],_ :: _,h,_ => by simp at h
 | _ :: _,[],h,_ => by simp at h
 | r :: rows,v :: vs,h,ha => by
  have h1:=ha r (by simp)
  have ih:=addCol_old hk (rows:=rows) (vs:=vs) (by simpa using h) (fun y hy => ha y (by simp [hy]))
  simp only [colN] at ih
  simp only [colN,addCol,List.filterMap_cons]
  rw [ih,List.getElem?_append_left (by omega)]

/-- The bytes of a column. -/
def segB (b:List Int) (u n:Int):List Int:=(b.take (u + n).toNat).drop u.toNat
def getCols (b:List Int) (m:Int):List Int→Int→List XRow→Option (List XRow × Int)
 | [],u,rows => some (rows,u)
 | ty :: cs,u,rows => match gN b u with
  | some (n,t) => if 0≤n∧n≤(b.length:Int) - t then (match decC (segB b t n) ty m with
   | some vs => getCols b m cs (t + n) (addCol rows vs)
   | none => none) else none
  | none => none

def colsEnc (rows:List XRow):Nat→Nat→List Int
 | 0,_ => []
 | n + 1,j => encN ((encC (colN j rows)).length:Int) ++ encC (colN j rows) ++ colsEnc rows n (j + 1)

theorem segB_len {b:List Int} {u n:Int} (h0:0≤u) (h1:0≤n) (h2:n≤(b.length:Int) - u):((segB b u n).length:Int) = n:=by
 simp only [segB,List.length_drop,List.length_take]; omega
theorem segB_app {b:List Int} {u n:Int} (h0:0≤u) (h1:0≤n):b.drop u.toNat = segB b u n ++ b.drop (u + n).toNat:=by
 have e:(u + n).toNat = u.toNat + n.toNat:=by omega
 rw [segB,e,← List.drop_drop,List.drop_take]
 rw [show u.toNat + n.toNat - u.toNat = n.toNat by omega]
 exact (List.take_append_drop _ _).symm

theorem getCols_can {b:List Int} {m:Int} (hb:bytesOk b):∀ {cs:List Int} {u t:Int} {rows rows':List XRow} {j:Nat},0≤u→u≤(b.length:Int)→(rows.length:Int) = m→allL j rows →
  getCols b m cs u rows = some (rows',t) →
  rows'.length = rows.length∧rows'.map (·.Id) = rows.map (·.Id)∧allL (j + cs.length) rows'∧(∀ i,i < j→colN i rows' = colN i rows)∧u≤t∧t≤(b.length:Int) ∧
   b.drop u.toNat = colsEnc rows' cs.length j ++ b.drop t.toNat
 | [],u,t,rows,rows',j,h0,h1,hm,ha,h => by
  simp only [getCols,Option.some.injEq,Prod.mk.injEq] at h
  obtain ⟨rfl,rfl⟩:=h
  exact ⟨rfl,rfl,by simpa using ha,fun _ _ => rfl,by omega,h1,by simp [colsEnc]⟩
 | ty :: cs,u,t,rows,rows',j,h0,h1,hm,ha,h => by
  simp only [getCols] at h
  split at h
  ·rename_i n w hg
   split at h
   ·rename_i hn
    split at h
    ·rename_i vs hd
     obtain ⟨a1,a2,a3,a4,a5⟩:=gN_can hb hg
     have hsb:bytesOk (segB b w n):=bytesOk_drop _ (bytesOk_take _ hb)
     obtain ⟨d1,d2,d3⟩:=decC_some hsb hd
     have hl:rows.length = vs.length:=by omega
     obtain ⟨e1,e2,e3,e4,e5,e6,e7⟩:=getCols_can hb (cs:=cs) (j:=j + 1) (by omega) (by omega) (by rw [addCol_len hl]; exact hm) (addCol_all ha) h
     have hc:colN j rows' = vs:=by rw [e4 j (by omega),addCol_col hl ha]
     refine ⟨e1.trans (addCol_len hl),e2.trans (addCol_ids hl),?_,fun i hi => ?_,by omega,e6,?_⟩
     ·rw [List.length_cons,show j + (cs.length + 1) = j + 1 + cs.length by omega]; exact e3
     ·rw [e4 i (by omega),addCol_old hi hl ha]
     ·have hsl:=segB_len (b:=b) (u:=w) (n:=n) (by omega) hn.1 hn.2
      simp only [List.length_cons,colsEnc]
      rw [hc,← d3,hsl,a5,segB_app (u:=w) (n:=n) (by omega) hn.1,e7]
      simp [List.append_assoc]
    ·cases h
   ·cases h
  ·cases h

def rowOkF (cols:List Int) (r:XRow):Bool:=decide (0≤r.Id) && fitsF cols r.L
def prevOk:Option Int→Int→Bool
 | some q,i => decide (q < i)
 | none,_ => true
def rowsL (cols:List Int):Option Int→List XRow→Bool
 | _,[] => true
 | p,r :: l => if rowOkF cols r = true∧r.Id≤1000000000∧prevOk p r.Id = true then rowsL cols (some r.Id) l else false
def rowsOkF (cols:List Int) (l:List XRow):Bool:=colsOk cols && (decide (l.length≤12) && rowsL cols none l)

theorem rowsL_ids {cols:List Int}:∀ {l:List XRow} {p:Option Int},rowsL cols p l = true→∀ r ∈ l,0≤r.Id∧r.Id≤1000000000
 | [],_,_,r,hr => by simp at hr
 | x :: l,p,h,r,hr => by
  simp only [rowsL] at h
  split at h
  ·rename_i hx
   rcases List.mem_cons.1 hr with rfl | hr
   ·have:=hx.1
    simp only [rowOkF,Bool.and_eq_true,decide_eq_true_eq] at this
    exact ⟨this.1,hx.2.1⟩
   ·exact rowsL_ids h r hr
  ·cases h

def putGF (cols:List Int) (l:List XRow):List Int:=if rowsOkF cols l = true then encNs (l.map (·.Id)) ++ (if l.length = 0 then [] else colsEnc l cols.length 0) else []

theorem colsEnc_ok (rows:List XRow):∀ (n j:Nat),bytesOk (colsEnc rows n j)
 | 0,_ => bytesOk_nil
 | n + 1,j => bytesOk_append (bytesOk_append (encN_ok _) (encC_ok _)) (colsEnc_ok rows n (j + 1))
theorem putGF_ok (cols:List Int) (l:List XRow):bytesOk (putGF cols l):=by
 unfold putGF
 split
 ·refine bytesOk_append (bytesOk_append (encN_ok _) (bytesOk_flat encN_ok _)) ?_
  split
  ·exact bytesOk_nil
  ·exact colsEnc_ok _ _ _
 ·exact bytesOk_nil

def rows0 (ids:List Int):List XRow:=ids.map fun i => ⟨i,[]⟩
/-- The columns,if there are rows. -/
def gCols (b:List Int) (cols:List Int) (u:Int) (ids:List Int):Option (List XRow × Int):=if ids.length = 0 then some ([],u) else getCols b (ids.length:Int) cols u (rows0 ids)
def ggF (cols b:List Int):Option (List XRow):=match gNs b 0 with
 | some (ids,u) => if colsOk cols = true then (match gCols b cols u ids with
  | some (rows,t) => if t = (b.length:Int)∧rowsOkF cols rows = true then some rows else none
  | none => none) else none
 | none => none

theorem ggF_put {b cols:List Int} {ids:List Int} {u t:Int} {rows:List XRow} (hb:bytesOk b) (h1:gNs b 0 = some (ids,u)) (h2:gCols b cols u ids = some (rows,t)) (h3:rowsOkF cols rows = true) :
  (b = putGF cols rows ↔ t = (b.length:Int)):=by
 obtain ⟨a1,a2,a3,a4,a5⟩:=gNs_can hb h1
 unfold putGF
 rw [if_pos h3]
 unfold gCols at h2
 split at h2
 ·rename_i h0
  simp only [Option.some.injEq,Prod.mk.injEq] at h2
  obtain ⟨rfl,rfl⟩:=h2
  have:ids = []:=List.length_eq_zero_iff.1 h0
  subst this
  simp only [List.map_nil,List.length_nil,if_true,List.append_nil]
  constructor
  ·intro e
   have hl:=congrArg List.length a5
   rw [← e] at hl
   simp only [List.length_append,List.length_drop] at hl
   omega
  ·intro e
   rw [a5]
   conv => lhs; rw [List.drop_of_length_le (by omega)]
   simp
 ·rename_i h0
  obtain ⟨c1,c2,c3,c4,c5,c6,c7⟩:=getCols_can hb (j:=0) a3 a4 (by simp [rows0]) (fun r hr => by simp only [rows0,List.mem_map] at hr; obtain ⟨i,_,rfl⟩:=hr; rfl) h2
  have hrl:rows.length ≠ 0:=by rw [c1]; simpa [rows0] using h0
  have hids:rows.map (·.Id) = ids:=by rw [c2]; simp [rows0,Function.comp_def]
  rw [if_neg hrl,hids]
  rw [c7] at a5
  constructor
  ·intro e
   have hl:=congrArg List.length a5
   rw [e] at hl
   simp only [List.length_append,List.length_drop] at hl
   have hl2:=congrArg List.length e
   simp only [List.length_append] at hl2
   omega
  ·intro e
   rw [e,show ((b.length:Int)).toNat = b.length by omega,List.drop_length,List.append_nil] at a5
   exact a5

theorem gCols_len {b cols:List Int} {ids:List Int} {u t:Int} {rows:List XRow} (hb:bytesOk b) (h1:gNs b 0 = some (ids,u)) (h2:gCols b cols u ids = some (rows,t)):rows.length = ids.length:=by
 obtain ⟨a1,a2,a3,a4,a5⟩:=gNs_can hb h1
 unfold gCols at h2
 split at h2
 ·rename_i h0
  simp only [Option.some.injEq,Prod.mk.injEq] at h2
  obtain ⟨rfl,rfl⟩:=h2
  simp [h0]
 ·obtain ⟨c1,_⟩:=getCols_can hb (j:=0) a3 a4 (by simp [rows0]) (fun r hr => by simp only [rows0,List.mem_map] at hr; obtain ⟨i,_,rfl⟩:=hr; rfl) h2
  rw [c1]; simp [rows0]

theorem colN_no {k:Nat} {a:List XVal} {r:XRow} {l:List XRow} (h:¬ k < r.L.length):a ++ colN k (r :: l) = a ++ colN k l:=by
 simp only [colN,List.filterMap_cons]
 rw [List.getElem?_eq_none (by omega)]

theorem colN_yes {k:Nat} {a:List XVal} {r:XRow} {l:List XRow} {v:XVal} (h:r.L[k]? = some v):a ++ colN k (r :: l) = (a ++ [v]) ++ colN k l:=by
 simp only [colN]
 rw [List.filterMap_cons_some (f:=fun r:XRow => r.L[k]?) h]; simp

theorem colN_len (k:Nat) (l:List XRow):(colN k l).length≤l.length:=List.length_filterMap_le _ _

theorem colN_sms {k:Nat} {l:List XRow} (h:XRow.sms l):XVal.sms (colN k l):=fun v hv => by
 simp only [colN,List.mem_filterMap] at hv
 obtain ⟨r,hr,hv⟩:=hv
 exact (h r hr).2 v (List.mem_of_getElem? hv)

@[simp] theorem t481 (k0:Bool) (l:List XRow) (k:Nat) (h:l.length≤1048576) (hs:XRow.sms l) (hk:k≤1048576):Gw TT 481 [.one (.ro k0 (.sl 2 (l.map XRow.e))),vi (k:Int)] = some (.one (.own (.sl 3 ((colN k l).map XVal.e))),[]):=by
 refine Ga pf481 pb481 ?_
 unfold pb481
 refine Ua Oo ?_
 refine wp_loopI (σ:=List XRow × List XRow × List XVal) (fun s => [(1,AV.v false (di (k:Nat)),none),(5,AV.pl 5 0 [],some (Rt.vir [C.own (D.sl 3 ((s.2.2).map XVal.e))])),(9,AV.v k0 (D.sl 2 (l.map XRow.e)),none),(10,AV.v false (di (l.length:Nat)),none),(11,AV.v false (di ((s.1.length:Nat):Int)),none)]) (fun s => l = s.1 ++ s.2.1∧colN k l = s.2.2 ++ colN k s.2.1∧s.2.2.length≤s.1.length) (fun s => s.2.1.length) ([],l,[]) (by simp) ⟨rfl,by simp,by simp⟩ ?_
 rintro ⟨pre,rest,a⟩ ⟨y1,y2,y4⟩
 simp only at y1 y2 y4
 have y3:l.length = pre.length + rest.length:=by rw [y1,List.length_append]
 rcases rest with _ | ⟨⟨aa,y_L⟩,rest⟩
 ·simp only [List.length_nil] at y3
  simp only [colN,List.filterMap_nil,List.append_nil] at y2
  have c1:¬ (pre.length:Int) < (l.length:Int):=by omega
  unfold pl481_0
  refine Ua (J2 c1 y2) ?_
  simp [pf481,colN,y2]
 ·simp only [List.length_cons] at y3
  have hg:l[pre.length]? = some ⟨aa,y_L⟩:=by rw [y1]; simp
  have hsd:=hs ⟨aa,y_L⟩ (List.mem_of_getElem? hg)
  simp only [XRow.sm] at hsd
  obtain ⟨hlt,hge⟩:=List.getElem?_eq_some_iff.1 hg
  have c1:(pre.length:Int) < (l.length:Int):=by omega
  have hw:=Wi ((pre.length:Int) + 1)
  have hq:(a.length + 1) * 32≤70368744177664:=by omega
  have hw2:=Wi ((y_L.length:Int) - 1)
  unfold pl481_0
  by_cases q:k < y_L.length
  ·obtain ⟨⟨dT,dN,dS⟩,hv⟩:∃ v,y_L[k]? = some v:=⟨_,List.getElem?_eq_getElem q⟩
   have hve:=(List.getElem?_eq_some_iff.1 hv).2
   rw [colN_yes hv] at y2
   have p1:(k:Int) < (y_L.length:Int):=by omega
   have p2:¬ (y_L.length:Int)≤(k:Int):=by omega
   have p3:(k:Int)≤(y_L.length:Int) - 1:=by omega
   refine Ua (J8 hg hge hlt c1 hw hw2 hq (J6 q hv hve p1 p2 p3)) ?_
   exact ⟨(pre ++ [⟨aa,y_L⟩],rest,a ++ [⟨dT,dN,dS⟩]),(by simp; try omega),⟨by rw [y1]; simp,y2,by simp; omega⟩,by simp⟩
  ·rw [colN_no q] at y2
   have p1:¬ (k:Int) < (y_L.length:Int):=by omega
   have p2:(y_L.length:Int)≤(k:Int):=by omega
   have p3:¬ (k:Int)≤(y_L.length:Int) - 1:=by omega
   refine Ua (J8 hg hge hlt c1 hw hw2 q (J3 p1 p2 p3)) ?_
   exact ⟨(pre ++ [⟨aa,y_L⟩],rest,a),(by simp; try omega),⟨by rw [y1]; simp,y2,by simp; omega⟩,by simp⟩

@[simp] theorem t529 (k0 k1:Bool) (cols:List Int) (a:Int) (r_L:List XVal) (h:cols.length≤1048576) (h5:r_L.length≤1048576) (hs:XVal.sms r_L):Gw TT 529 [.one (.ro k0 (.sl 1 (cols.map ei))),.st [.ro false (di a),.ro k1 (.sl 3 (r_L.map XVal.e))]] = some (vb (rowOkF cols ⟨a,r_L⟩),[]):=by
 refine Ga pf529 pb529 ?_
 unfold pb529
 refine Ud (J3 h h5 hs) ?_ ?_
 all_goals repeat intro hc
 all_goals first | (simp_all [pf529,rowOkF]; done) | (simp_all [pf529,rowOkF]; omega)

@[simp] theorem t520 (k0 k1:Bool) (cols:List Int) (a:Int) (r_L:List XVal) (h:cols.length≤1048576) (h5:r_L.length≤1048576) (hs:XVal.sms r_L):Gw TT 520 [.one (.ro k0 (.sl 1 (cols.map ei))),.st [.ro false (di a),.ro k1 (.sl 3 (r_L.map XVal.e))]] = some (vb (rowOkF cols ⟨a,r_L⟩),[]):=by
 refine Ga pf520 pb520 ?_
 unfold pb520
 refine Ud (J3 h h5 hs) ?_ ?_
 all_goals repeat intro hc
 all_goals first | (simp_all [pf520,rowOkF]; done) | (simp_all [pf520,rowOkF]; omega)

theorem rowsL_no {cols:List Int} {p:Option Int} {r:XRow} {l:List XRow} (h:¬ (rowOkF cols r = true∧r.Id≤1000000000∧prevOk p r.Id = true)):rowsL cols p (r :: l) = false:=by
 simp only [rowsL]; rw [if_neg h]

theorem rowsL_yes {cols:List Int} {p:Option Int} {r:XRow} {l:List XRow} (h:rowOkF cols r = true∧r.Id≤1000000000∧prevOk p r.Id = true):rowsL cols p (r :: l) = rowsL cols (some r.Id) l:=by
 simp only [rowsL]; rw [if_pos h]

def lastId (l:List XRow):Option Int:=(l.getLast?).map (·.Id)
theorem lastId_app (l:List XRow) (r:XRow):lastId (l ++ [r]) = some r.Id:=by simp [lastId]

theorem prevOk_last {l:List XRow} {n:Nat} {r:XRow} (hl:l.length = n + 1) (h:l[n]? = some r) (i:Int):prevOk (lastId l) i = decide (r.Id < i):=by
 have:l.getLast? = some r:=by rw [List.getLast?_eq_getElem?,hl]; exact h
 simp [lastId,this,prevOk]

@[simp] theorem t497 (k0 k1:Bool) (cols:List Int) (l:List XRow) (h:cols.length≤1048576) (h2:l.length≤1048576) (hs:XRow.sms l):Gw TT 497 [.one (.ro k0 (.sl 1 (cols.map ei))),.one (.ro k1 (.sl 2 (l.map XRow.e)))] = some (vb (rowsOkF cols l),[]):=by
 refine Ga pf497 pb497 ?_
 unfold pb497
 cases hc0:colsOk cols with
 | false =>
  have hf:rowsOkF cols l = false:=by simp [rowsOkF,hc0]
  refine Ud (J3 h hc0 hf) ?_
  simp [pf497,hf]
 | true =>
 by_cases hm:12 < l.length
 ·have hf:rowsOkF cols l = false:=by simp [rowsOkF]; intro _ _; omega
  have hm1:(12:Int) < (l.length:Int):=by omega
  refine Ud (J4 h hc0 hf hm1) ?_
  simp [pf497,hf]
 have hm1:¬ (12:Int) < (l.length:Int):=by omega
 have hro:rowsOkF cols l = rowsL cols none l:=by
  simp only [rowsOkF,hc0]; simp; intro _; omega
 refine Ud (J3 h hc0 hm1) ?_
 refine wp_loopI (σ:=List XRow × List XRow) (fun s => [(0,AV.v k0 (D.sl 1 (cols.map ei)),none),(1,AV.v k1 (D.sl 2 (l.map XRow.e)),none),(15,AV.v k1 (D.sl 2 (l.map XRow.e)),none),(16,AV.v false (di (l.length:Nat)),none),(17,AV.v false (di ((s.1.length:Nat):Int)),none)]) (fun s => l = s.1 ++ s.2∧rowsL cols none l = rowsL cols (lastId s.1) s.2) (fun s => s.2.length) ([],l) (by simp) ⟨rfl,rfl⟩ ?_
 rintro ⟨pre,rest⟩ ⟨y1,y2⟩
 simp only at y1 y2
 have y3:l.length = pre.length + rest.length:=by rw [y1,List.length_append]
 rcases rest with _ | ⟨⟨a,y_L⟩,rest⟩
 ·simp only [List.length_nil] at y3
  have c1:¬ (pre.length:Int) < (l.length:Int):=by omega
  unfold pl497_0
  have hf:rowsOkF cols l = true:=by rw [hro,y2]; try rfl
  refine Ud (J2 c1 hf) ?_
  simp [pf497,hf]
 ·simp only [List.length_cons] at y3
  have hg:l[pre.length]? = some ⟨a,y_L⟩:=by rw [y1]; simp
  have hsd:=hs ⟨a,y_L⟩ (List.mem_of_getElem? hg)
  simp only [XRow.sm] at hsd
  obtain ⟨hsL,hsS⟩:=hsd
  obtain ⟨hlt,hge⟩:=List.getElem?_eq_some_iff.1 hg
  have c1:(pre.length:Int) < (l.length:Int):=by omega
  have hw:=Wi ((pre.length:Int) + 1)
  unfold pl497_0
  cases hro1:rowOkF cols ⟨a,y_L⟩ with
  | false =>
   rw [rowsL_no (by rw [hro1]; simp)] at y2
   have hf:rowsOkF cols l = false:=by rw [hro]; exact y2
   refine Ud (J8 hg hge hlt c1 hw h hsL (J3 hsS hro1 hf)) ?_
   simp [pf497,hf]
  | true =>
   by_cases hbig:1000000000 < a
   ·rw [rowsL_no (by simp only; omega)] at y2
    have hf:rowsOkF cols l = false:=by rw [hro]; exact y2
    refine Ud (J8 hg hge hlt c1 hw h hsL (J4 hsS hro1 hbig hf)) ?_
    simp [pf497,hf]
   ·by_cases hp0:pre.length = 0
    ·have hpe:pre = []:=List.length_eq_zero_iff.1 hp0
     rw [rowsL_yes ⟨hro1,by simp only; omega,by rw [hpe]; rfl⟩] at y2
     subst hpe
     simp only [List.length_nil] at hg hlt hge
     have c1:(0:Int) < (l.length:Int):=by omega
     have w1:IntKind.wrap .i64 1 = 1:=wrap_i64 (by omega) (by omega)
     refine Ud (J8 hg hge hlt c1 w1 h hsL (J3 hsS hro1 hbig)) ?_
     exact ⟨([] ++ [⟨a,y_L⟩],rest),(by simp; try omega),⟨by rw [y1]; simp,by rw [y2,lastId_app]⟩,by simp⟩
    ·obtain ⟨m,hm2⟩:∃ m,pre.length = m + 1:=⟨pre.length - 1,by omega⟩
     obtain ⟨⟨aa,z_L⟩,hz⟩:∃ z,pre[m]? = some z:=⟨_,List.getElem?_eq_getElem (by omega)⟩
     have hz2:l[m]? = some ⟨aa,z_L⟩:=by rw [y1,List.getElem?_append_left (by omega)]; exact hz
     obtain ⟨hzl,hze⟩:=List.getElem?_eq_some_iff.1 hz2
     have hpo:=prevOk_last hm2 hz a
     have q1:((m:Int) + 1) - 1 = (m:Int):=by omega
     have q2:(0:Int) < (pre.length:Int):=by omega
     have q3:IntKind.wrap .i64 ((pre.length:Int) - 1) = (m:Int):=by rw [hm2]; rw [show (((m + 1:Nat):Int) - 1) = (m:Int) by omega]; exact wrap_i64 (by omega) (by omega)
     by_cases hlt2:aa < a
     ·rw [rowsL_yes ⟨hro1,by simp only; omega,by rw [hpo]; simpa using hlt2⟩] at y2
      have q4:¬ a≤aa:=by omega
      refine Ud (J8 hg hge hlt c1 hw h hsL (J8 hsS hro1 hbig q2 q3 hz2 hze (J2 hzl q4))) ?_
      repeat intro hc
      exact ⟨(pre ++ [⟨a,y_L⟩],rest),(by simp; try omega),⟨by rw [y1]; simp,by rw [y2,lastId_app]⟩,by simp⟩
     ·rw [rowsL_no (by rw [hpo]; simp; intro _ _; omega)] at y2
      have q4:a≤aa:=by omega
      have hf:rowsOkF cols l = false:=by rw [hro]; exact y2
      refine Ud (J8 hg hge hlt c1 hw h hsL (J8 hsS hro1 hbig q2 q3 hz2 hze (J3 hzl q4 hf))) ?_
      repeat intro hc
      simp [pf497,hf]

@[simp] theorem t493 (k0 k1:Bool) (cols:List Int) (l:List XRow) (h:cols.length≤1048576) (h2:l.length≤1048576) (hs:XRow.sms l):Gw TT 493 [.one (.ro k0 (.sl 1 (cols.map ei))),.one (.ro k1 (.sl 2 (l.map XRow.e)))] = some (vb (rowsOkF cols l),[]):=by
 refine Ga pf493 pb493 ?_
 unfold pb493
 refine Ud h ?_
 refine wp_loopI (σ:=List XRow × List XRow) (fun s => [(0,AV.v k0 (D.sl 1 (cols.map ei)),none),(1,AV.v k1 (D.sl 2 (l.map XRow.e)),none),(5,AV.v false (di ((s.1.length:Nat):Int)),none)]) (fun s => l = s.1 ++ s.2∧rowsL cols none l = rowsL cols (lastId s.1) s.2) (fun s => s.2.length) ([],l) (by simp) ⟨rfl,rfl⟩ ?_
 rintro ⟨pre,rest⟩ ⟨y1,y2⟩
 simp only at y1 y2
 have y3:l.length = pre.length + rest.length:=by rw [y1,List.length_append]
 rcases rest with _ | ⟨⟨a,y_L⟩,rest⟩
 ·simp only [List.length_nil] at y3
  have c1:¬ (pre.length:Int) < (l.length:Int):=by omega
  unfold pl493_0
  have hf:rowsOkF cols l = (colsOk cols && decide ((l.length:Int)≤12)):=by
   have e:decide (l.length≤12) = decide ((l.length:Int)≤12):=by simp; omega
   simp only [rowsOkF,y2,rowsL,Bool.and_true,e]
  refine Ud (J3 c1 h hf) ?_ ?_
  all_goals repeat intro hc
  all_goals simp_all [pf493]
 ·simp only [List.length_cons] at y3
  have hg:l[pre.length]? = some ⟨a,y_L⟩:=by rw [y1]; simp
  have hsd:=hs ⟨a,y_L⟩ (List.mem_of_getElem? hg)
  simp only [XRow.sm] at hsd
  obtain ⟨hsL,hsS⟩:=hsd
  obtain ⟨hlt,hge⟩:=List.getElem?_eq_some_iff.1 hg
  have c1:(pre.length:Int) < (l.length:Int):=by omega
  have hw:=Wi ((pre.length:Int) + 1)
  unfold pl493_0
  cases hro1:rowOkF cols ⟨a,y_L⟩ with
  | false =>
   rw [rowsL_no (by rw [hro1]; simp)] at y2
   have hf:rowsOkF cols l = false:=by simp [rowsOkF,y2]
   refine Ud (J8 hg hge hlt c1 hw h hsL (J3 hsS hro1 hf)) ?_
   simp [pf493,hf]
  | true =>
   by_cases hbig:1000000000 < a
   ·rw [rowsL_no (by simp only; omega)] at y2
    have hf:rowsOkF cols l = false:=by simp [rowsOkF,y2]
    refine Ud (J8 hg hge hlt c1 hw h hsL (J4 hsS hro1 hbig hf)) ?_
    simp [pf493,hf]
   ·by_cases hp0:pre.length = 0
    ·have hpe:pre = []:=List.length_eq_zero_iff.1 hp0
     rw [rowsL_yes ⟨hro1,by simp only; omega,by rw [hpe]; rfl⟩] at y2
     subst hpe
     simp only [List.length_nil] at hg hlt hge
     have c1:(0:Int) < (l.length:Int):=by omega
     have w1:IntKind.wrap .i64 1 = 1:=wrap_i64 (by omega) (by omega)
     refine Ud (J8 hg hge hlt c1 w1 h hsL (J3 hsS hro1 hbig)) ?_
     exact ⟨([] ++ [⟨a,y_L⟩],rest),(by simp; try omega),⟨by rw [y1]; simp,by rw [y2,lastId_app]⟩,by simp⟩
    ·obtain ⟨m,hm2⟩:∃ m,pre.length = m + 1:=⟨pre.length - 1,by omega⟩
     obtain ⟨⟨aa,z_L⟩,hz⟩:∃ z,pre[m]? = some z:=⟨_,List.getElem?_eq_getElem (by omega)⟩
     have hz2:l[m]? = some ⟨aa,z_L⟩:=by rw [y1,List.getElem?_append_left (by omega)]; exact hz
     obtain ⟨hzl,hze⟩:=List.getElem?_eq_some_iff.1 hz2
     have hpo:=prevOk_last hm2 hz a
     have q1:((m:Int) + 1) - 1 = (m:Int):=by omega
     have q2:(0:Int) < (pre.length:Int):=by omega
     have q3:IntKind.wrap .i64 ((pre.length:Int) - 1) = (m:Int):=by rw [hm2]; rw [show (((m + 1:Nat):Int) - 1) = (m:Int) by omega]; exact wrap_i64 (by omega) (by omega)
     by_cases hlt2:aa < a
     ·rw [rowsL_yes ⟨hro1,by simp only; omega,by rw [hpo]; simpa using hlt2⟩] at y2
      have q4:¬ a≤aa:=by omega
      refine Ud (J8 hg hge hlt c1 hw h hsL (J8 hsS hro1 hbig q2 q3 hz2 hze (J2 hzl q4))) ?_
      repeat intro hc
      exact ⟨(pre ++ [⟨a,y_L⟩],rest),(by simp; try omega),⟨by rw [y1]; simp,by rw [y2,lastId_app]⟩,by simp⟩
     ·rw [rowsL_no (by rw [hpo]; simp; intro _ _; omega)] at y2
      have q4:a≤aa:=by omega
      have hf:rowsOkF cols l = false:=by simp [rowsOkF,y2]
      refine Ud (J8 hg hge hlt c1 hw h hsL (J8 hsS hro1 hbig q2 q3 hz2 hze (J3 hzl q4 hf))) ?_
      repeat intro hc
      simp [pf493,hf]

theorem flatN_len:∀ l:List Int,(l.flatMap encN).length≤5 * l.length
 | [] => by simp
 | n :: l => by
  have:=flatN_len l
  have:=encN_len n
  simp only [List.flatMap_cons,List.length_append,List.length_cons]; omega

theorem numB_of {n:Int} (h:-1000000000≤n∧n≤1000000000):numB n = true:=by simp [numB,h.1,h.2]

@[simp] theorem t530 (k0 k1:Bool) (l:List Int) (h:l.length≤64) (hn:∀ n ∈ l,-1000000000≤n∧n≤1000000000):Gw TT 530 [.one (.ro k0 (.sl 1 [])),.one (.ro k1 (.sl 1 (l.map ei)))] = some (.one (.own (.sl 1 ((encNs l).map eb))),[]):=by
 refine Ga pf530 pb530 ?_
 unfold pb530
 have h69:=t69 k0 [] (by simp)
 simp only [List.map_nil] at h69
 have c0:¬ (1000000000:Int) < (l.length:Int):=by omega
 refine Ua (J2 h69 c0) ?_
 refine wp_loopI (σ:=List Int × List Int) (fun s => [(1,AV.v k1 (D.sl 1 (l.map ei)),none),(5,AV.pl 5 0 [],some (Rt.vir [C.own (D.sl 1 [])])),(16,AV.v k1 (D.sl 1 (l.map ei)),none),(17,AV.v false (di (l.length:Nat)),none),(18,AV.v false (di ((s.1.length:Nat):Int)),none)]) (fun s => l = s.1 ++ s.2) (fun s => s.2.length) ([],l) (by simp) rfl ?_
 rintro ⟨pre,rest⟩ y1
 simp only at y1
 have y3:l.length = pre.length + rest.length:=by rw [y1,List.length_append]
 rcases rest with _ | ⟨d,rest⟩
 ·simp only [List.length_nil] at y3
  have c1:¬ (pre.length:Int) < (l.length:Int):=by omega
  have h531:=t531 true [] (l.length:Int) (by simp)
  have h531f:=t531 false [] (l.length:Int) (by simp)
  simp only [List.map_nil,List.nil_append] at h531 h531f
  unfold pl530_1
  refine Ua (J3 c1 h531 h531f) ?_
  have hen:=encN_len (l.length:Int)
  refine wp_loopI (σ:=List Int × List Int × List Int) (fun s => [(5,AV.pl 5 0 [],some (Rt.vir [C.own (D.sl 1 (s.2.2.map eb))])),(31,AV.v k1 (D.sl 1 (l.map ei)),none),(32,AV.v false (di (l.length:Nat)),none),(33,AV.v false (di ((s.1.length:Nat):Int)),none)]) (fun s => l = s.1 ++ s.2.1∧encNs l = s.2.2 ++ s.2.1.flatMap encN∧s.2.2.length≤5 + 5 * s.1.length) (fun s => s.2.1.length) ([],l,encN (l.length:Int)) (by simp) ⟨rfl,rfl,by simpa using hen⟩ ?_
  rintro ⟨pre,rest,a⟩ ⟨z1,z2,z4⟩
  simp only at z1 z2 z4
  have z3:l.length = pre.length + rest.length:=by rw [z1,List.length_append]
  rcases rest with _ | ⟨d,rest⟩
  ·simp only [List.length_nil] at z3
   have c1:¬ (pre.length:Int) < (l.length:Int):=by omega
   simp only [List.flatMap_nil,List.append_nil] at z2
   unfold pl530_0
   refine Ua (J2 c1 z2) ?_
   simp [pf530,z2]
  ·simp only [List.length_cons] at z3
   have hg:l[pre.length]? = some d:=by rw [z1]; simp
   obtain ⟨hlt,hge⟩:=List.getElem?_eq_some_iff.1 hg
   have c1:(pre.length:Int) < (l.length:Int):=by omega
   have hw:=Wi ((pre.length:Int) + 1)
   have ha:a.length≤1048576:=by omega
   have hed:=encN_len d
   unfold pl530_0
   refine Ua (J6 hg hge hlt c1 hw ha) ?_
   exact ⟨(pre ++ [d],rest,a ++ encN d),(by simp; try omega),⟨by rw [z1]; simp,by rw [z2]; simp,by simp only [List.length_append,List.length_cons,List.length_nil]; omega⟩,by simp⟩
 ·simp only [List.length_cons] at y3
  have hg:l[pre.length]? = some d:=by rw [y1]; simp
  have hnb:=numB_of (hn d (List.mem_of_getElem? hg))
  obtain ⟨hlt,hge⟩:=List.getElem?_eq_some_iff.1 hg
  have c1:(pre.length:Int) < (l.length:Int):=by omega
  have hw:=Wi ((pre.length:Int) + 1)
  unfold pl530_1
  refine Ua (J6 hg hge hlt c1 hw hnb) ?_
  exact ⟨(pre ++ [d],rest),(by simp; try omega),by rw [y1]; simp,by simp⟩

/-- What the columns after the first j add. -/
def colsG (l:List XRow) (n j:Nat):List Int:=if l.length = 0 then [] else colsEnc l n j
theorem colsG_zero (l:List XRow) (j:Nat):colsG l 0 j = []:=by unfold colsG colsEnc; split <;> rfl
theorem colsG_nil {l:List XRow} (h:l.length = 0) (n j:Nat):colsG l n j = []:=by unfold colsG; rw [if_pos h]
theorem colsG_succ {l:List XRow} (h:¬ l.length = 0) (n j:Nat):colsG l (n + 1) j = encN ((encC (colN j l)).length:Int) ++ encC (colN j l) ++ colsG l n (j + 1):=by
 unfold colsG; rw [if_neg h,if_neg h]; try rfl

theorem putGF_eq {cols:List Int} {l:List XRow} (h:rowsOkF cols l = true):putGF cols l = encNs (l.map (·.Id)) ++ colsG l cols.length 0:=by
 unfold putGF colsG; rw [if_pos h]

theorem rowsOkF_props {cols:List Int} {l:List XRow} (h:rowsOkF cols l = true):colsOk cols = true∧l.length≤12∧∀ n ∈ l.map (·.Id),-1000000000≤n∧n≤1000000000:=by
 simp only [rowsOkF,Bool.and_eq_true,decide_eq_true_eq] at h
 refine ⟨h.1,h.2.1,fun n hn => ?_⟩
 obtain ⟨r,hr,rfl⟩:=List.mem_map.1 hn
 have:=rowsL_ids h.2.2 r hr
 omega
theorem colsOk_len {cols:List Int} (h:colsOk cols = true):1≤cols.length∧cols.length≤3:=by
 simp only [colsOk,Bool.and_eq_true,decide_eq_true_eq] at h
 omega

@[simp] theorem t498 (k0 k1:Bool) (cols:List Int) (l:List XRow) (h:cols.length≤1048576) (h2:l.length≤1048576) (hs:XRow.sms l):Gw TT 498 [.one (.ro k0 (.sl 1 (cols.map ei))),.one (.ro k1 (.sl 2 (l.map XRow.e)))] = some (.one (.own (.sl 1 ((putGF cols l).map eb))),[]):=by
 refine Ga pf498 pb498 ?_
 unfold pb498
 cases hro:rowsOkF cols l with
 | false =>
  have hp:putGF cols l = []:=by unfold putGF; rw [hro]; try rfl
  refine Uw (J5 h h2 hs hro hp) ?_
  simp [pf498,hp]
 | true =>
 obtain ⟨hco,hl12,hid⟩:=rowsOkF_props hro
 obtain ⟨hc1,hc2⟩:=colsOk_len hco
 refine Uw (J4 h h2 hs hro) ?_
 refine wp_loopI (σ:=List XRow × List XRow) (fun s => [(0,AV.v k0 (D.sl 1 (cols.map ei)),none),(1,AV.v k1 (D.sl 2 (l.map XRow.e)),none),(5,AV.pl 5 0 [],some (Rt.vir [C.own (D.sl 1 ((s.1.map (·.Id)).map ei))])),(16,AV.v k1 (D.sl 2 (l.map XRow.e)),none),(17,AV.v false (di (l.length:Nat)),none),(18,AV.v false (di ((s.1.length:Nat):Int)),none)]) (fun s => l = s.1 ++ s.2) (fun s => s.2.length) ([],l) (by simp) rfl ?_
 rintro ⟨pre,rest⟩ y1
 simp only at y1
 have y3:l.length = pre.length + rest.length:=by rw [y1,List.length_append]
 rcases rest with _ | ⟨⟨aa,y_L⟩,rest⟩
 ·simp only [List.length_nil] at y3
  simp only [List.append_nil] at y1
  have c1:¬ (pre.length:Int) < (l.length:Int):=by omega
  have h530:∀ k0 k1:Bool,Gw TT 530 [.one (.ro k0 (.sl 1 [])),.one (.ro k1 (.sl 1 ((pre.map (·.Id)).map ei)))] = some (.one (.own (.sl 1 ((encNs (l.map (·.Id))).map eb))),[]):=fun k0 k1 => by
   rw [← y1]; exact t530 k0 k1 (l.map (·.Id)) (by simp; omega) hid
  have h530b:=fun k0 k1:Bool => h530 k0 k1
  simp at h530b
  unfold pl498_1
  refine Uw (J2 c1 h530b) ?_
  have hnl:(encNs (l.map (·.Id))).length≤70:=by
   have:=encN_len ((l.map (·.Id)).length:Int)
   have:=flatN_len (l.map (·.Id))
   simp only [encNs,List.length_append]
   rw [List.length_map] at *
   omega
  refine wp_loopI (σ:=Nat × Nat × List Int) (fun s => [(1,AV.v k1 (D.sl 2 (l.map XRow.e)),none),(8,AV.pl 8 0 [],some (Rt.vir [C.own (D.sl 1 (s.2.2.map eb))])),(31,AV.v false (di (cols.length:Nat)),none),(32,AV.v false (di (s.1:Nat)),none)]) (fun s => s.1 + s.2.1 = cols.length∧putGF cols l = s.2.2 ++ colsG l s.2.1 s.1∧s.2.2.length≤70 + 1100 * s.1) (fun s => s.2.1) (0,cols.length,encNs (l.map (·.Id))) (by simp) ⟨by simp,putGF_eq hro,by simpa using hnl⟩ ?_
  rintro ⟨j,n,a⟩ ⟨z1,z2,z4⟩
  simp only at z1 z2 z4
  rcases n with _ | n
  ·have c1:¬ (j:Int) < (cols.length:Int):=by omega
   rw [colsG_zero,List.append_nil] at z2
   unfold pl498_0
   refine Uw (J2 c1 z2) ?_
   simp [pf498,z2]
  ·have c1:(j:Int) < (cols.length:Int):=by omega
   have hj:j≤1048576:=by omega
   have hw:=Wi ((j:Int) + 1)
   by_cases h0:l.length = 0
   ·have c2:¬ (0:Int) < (l.length:Int):=by omega
    rw [colsG_nil h0] at z2
    have hne:l = []:=List.length_eq_zero_iff.1 h0
    unfold pl498_0
    refine Uw (J4 c1 hw c2 hne) ?_
    exact ⟨(j + 1,n,a),(by simp; try omega),⟨by simp only; omega,by rw [z2,colsG_nil h0],by simp only; omega⟩,by simp⟩
   ·have c2:(0:Int) < (l.length:Int):=by omega
    rw [colsG_succ h0] at z2
    have hcl:(colN j l).length≤1048576:=Nat.le_trans (colN_len j l) h2
    have hcs:=colN_sms (k:=j) hs
    have ha:a.length≤1048576:=by omega
    have hec:=encC_len (colN j l)
    have hen:=encN_len ((encC (colN j l)).length:Int)
    have hq:a.length + (encN ((encC (colN j l)).length:Int)).length + (encC (colN j l)).length≤70368744177664:=by omega
    have hq2:a.length + ((encN ((encC (colN j l)).length:Int)).length + (encC (colN j l)).length)≤70368744177664:=by omega
    have hfl:flatD (List.map eb (encC (colN j l))) = true:=by simp [flatD]
    have hne:¬ l = []:=fun e => h0 (by rw [e]; rfl)
    unfold pl498_0
    refine Uw (J8 c1 hw c2 hne h2 hs hj (J5 hcl hcs ha hq hq2)) ?_ ?_
    all_goals repeat intro hc
    all_goals first | exact absurd ‹l = []› hne | exact ⟨(j + 1,n,a ++ encN ((encC (colN j l)).length:Int) ++ encC (colN j l)),(by simp; try omega),⟨by simp only; omega,by rw [z2]; simp,by simp only [List.length_append]; omega⟩,by simp⟩
 ·simp only [List.length_cons] at y3
  have hg:l[pre.length]? = some ⟨aa,y_L⟩:=by rw [y1]; simp
  obtain ⟨hlt,hge⟩:=List.getElem?_eq_some_iff.1 hg
  have c1:(pre.length:Int) < (l.length:Int):=by omega
  have hw:=Wi ((pre.length:Int) + 1)
  have hq:(pre.length + 1) * 8≤70368744177664:=by omega
  unfold pl498_1
  refine Uw (J6 hg hge hlt c1 hw hq) ?_
  exact ⟨(pre ++ [⟨aa,y_L⟩],rest),(by simp; try omega),by rw [y1]; simp,by simp⟩

def ggV (r:Option (List XRow)):V:=match r with
 | some l => .tup [.one (.own (.sl 2 (l.map XRow.e))),vb true]
 | none => .tup [.one (.own (.sl 2 [])),vb false]
@[simp] theorem ggV_some (l:List XRow):ggV (some l) = .tup [.one (.own (.sl 2 (l.map XRow.e))),vb true]:=rfl
@[simp] theorem ggV_none:ggV none = .tup [.one (.own (.sl 2 [])),vb false]:=rfl

theorem colsB_mem:∀ {l:List Int},colsB l = true→∀ p ∈ l,p = 1 ∨ p = 2
 | [],_,p,h => by simp at h
 | q :: l,hb,p,h => by
  simp only [colsB] at hb
  split at hb
  ·cases hb
  ·rcases List.mem_cons.1 h with rfl | h
   ·omega
   ·exact colsB_mem hb p h
theorem colsOk_mem {l:List Int} (h:colsOk l = true):∀ p ∈ l,p = 1 ∨ p = 2:=by
 simp only [colsOk,Bool.and_eq_true] at h
 exact colsB_mem h.1

theorem getCols_no1 {b:List Int} {m ty u:Int} {cs:List Int} {rows:List XRow} (h:gN b u = none):getCols b m (ty :: cs) u rows = none:=by
 simp only [getCols,h]
theorem getCols_no2 {b:List Int} {m ty u n t:Int} {cs:List Int} {rows:List XRow} (h:gN b u = some (n,t)) (h2:¬ (0≤n∧n≤(b.length:Int) - t)):getCols b m (ty :: cs) u rows = none:=by
 simp only [getCols,h]; rw [if_neg h2]
theorem getCols_no3 {b:List Int} {m ty u n t:Int} {cs:List Int} {rows:List XRow} (h:gN b u = some (n,t)) (h2:0≤n∧n≤(b.length:Int) - t) (h3:decC (segB b t n) ty m = none):getCols b m (ty :: cs) u rows = none:=by
 simp only [getCols,h]; rw [if_pos h2,h3]
theorem getCols_yes {b:List Int} {m ty u n t:Int} {cs:List Int} {rows:List XRow} {vs:List XVal} (h:gN b u = some (n,t)) (h2:0≤n∧n≤(b.length:Int) - t) (h3:decC (segB b t n) ty m = some vs):getCols b m (ty :: cs) u rows = getCols b m cs (t + n) (addCol rows vs):=by
 simp only [getCols,h]; rw [if_pos h2,h3]

theorem decC_sms {b:List Int} {ty k:Int} {l:List XVal} (hb:bytesOk b) (hty:ty = 1 ∨ ty = 2) (h:decC b ty k = some l):XVal.sms l:=by
 have:=(decC_some hb h).2.1
 exact typF_sms (by omega)
theorem addCol_sms {j:Nat} (hj:j < 1048576):∀ {rows:List XRow} {vs:List XVal},allL j rows→XRow.sms rows→XVal.sms vs→XRow.sms (addCol rows vs)
 | [],_,_,_,_ => fun r hr => by simp [addCol] at hr
 | _ :: _,[],_,_,_ => fun r hr => by simp [addCol] at hr
 | r :: rows,v :: vs,ha,hr,hv => fun x hx => by
  simp only [addCol] at hx
  rcases List.mem_cons.1 hx with rfl | hx
  ·have h1:=ha r (by simp)
   have h2:=hr r (by simp)
   refine ⟨by simp; omega,fun y hy => ?_⟩
   simp only [List.mem_append,List.mem_singleton] at hy
   rcases hy with hy | rfl
   ·exact h2.2 y hy
   ·exact hv y (by simp)
  ·exact addCol_sms hj (rows:=rows) (vs:=vs) (fun y hy => ha y (by simp [hy])) (fun y hy => hr y (by simp [hy])) (fun y hy => hv y (by simp [hy])) x hx
theorem rows0_all (ids:List Int):allL 0 (rows0 ids):=fun r hr => by
 simp only [rows0,List.mem_map] at hr
 obtain ⟨i,_,rfl⟩:=hr; rfl
theorem rows0_sms (ids:List Int):XRow.sms (rows0 ids):=fun r hr => by
 simp only [rows0,List.mem_map] at hr
 obtain ⟨i,_,rfl⟩:=hr
 exact ⟨by simp,fun v hv => by simp at hv⟩
theorem addCol_nil (vs:List XVal):addCol [] vs = []:=rfl

theorem ggF_no {cols b:List Int} (h:gNs b 0 = none):ggF cols b = none:=by unfold ggF; rw [h]
theorem ggF_nc {cols b:List Int} (h:¬ colsOk cols = true):ggF cols b = none:=by
 unfold ggF; split
 ·rw [if_neg h]
 ·rfl
theorem ggF_ng {cols b ids:List Int} {u:Int} (h:gNs b 0 = some (ids,u)) (h2:gCols b cols u ids = none):ggF cols b = none:=by
 unfold ggF; rw [h]; simp only; rw [h2]; split <;> rfl
theorem ggF_yes {cols b ids:List Int} {u t:Int} {rows:List XRow} (h:gNs b 0 = some (ids,u)) (h1:colsOk cols = true) (h2:gCols b cols u ids = some (rows,t)):ggF cols b = if t = (b.length:Int)∧rowsOkF cols rows = true then some rows else none:=by
 unfold ggF; rw [h]; simp only; rw [h2,if_pos h1]
theorem ggF_big {cols b ids:List Int} {u:Int} (hb:bytesOk b) (h:gNs b 0 = some (ids,u)) (h2:12 < ids.length):ggF cols b = none:=by
 by_cases h1:colsOk cols = true
 ·cases hg:gCols b cols u ids with
  | none => exact ggF_ng h hg
  | some q =>
   obtain ⟨rows,t⟩:=q
   have hl:=gCols_len hb h hg
   rw [ggF_yes h h1 hg,if_neg]
   intro e
   have:=(rowsOkF_props e.2).2.1
   omega
 ·exact ggF_nc h1

theorem t463 (k0 k1:Bool) (cols b:List Int) (h:cols.length≤1048576) (h2:b.length≤1048576) (hb:bytesOk b):Gw TT 463 [.one (.ro k0 (.sl 1 (cols.map ei))),.one (.ro k1 (.sl 1 (b.map eb)))] = some (ggV (ggF cols b),[]):=by
 refine Ga pf463 pb463 ?_
 unfold pb463
 cases hg:gNs b 0 with
 | none =>
  have hd:ggF cols b = none:=ggF_no hg
  refine Uw (J5 h h2 hb hg hd) ?_
  simp [pf463,hd]
 | some q =>
 obtain ⟨ids,u⟩:=q
 obtain ⟨i1,i2,i3,i4,i5⟩:=gNs_can hb hg
 by_cases hco:colsOk cols = true
 ·skip
  obtain ⟨cl1,cl2⟩:=colsOk_len hco
  have cty:=colsOk_mem hco
  refine Uw (J5 h h2 hb hg hco) ?_
  refine wp_loopI (σ:=List Int × List Int) (fun s => [(0,AV.v k0 (D.sl 1 (cols.map ei)),none),(1,AV.v k1 (D.sl 1 (b.map eb)),none),(6,AV.pl 6 0 [],some (Rt.vir [C.own (D.sl 1 (ids.map ei)),C.ro false (di u),C.ro false (D.bool true)])),(7,AV.v false (di u),none),(9,AV.pl 9 0 [],some (Rt.vir [C.own (D.sl 2 ((rows0 s.1).map XRow.e))])),(33,AV.pl 6 0 [],none),(34,AV.v false (di (ids.length:Nat)),none),(35,AV.v false (di ((s.1.length:Nat):Int)),none)]) (fun s => ids = s.1 ++ s.2) (fun s => s.2.length) ([],ids) (by simp [rows0]) rfl ?_
  rintro ⟨pre,rest⟩ y1
  simp only at y1
  have y3:ids.length = pre.length + rest.length:=by rw [y1,List.length_append]
  rcases rest with _ | ⟨d,rest⟩
  ·simp only [List.length_nil] at y3
   simp only [List.append_nil] at y1
   subst y1
   have c1:¬ (ids.length:Int) < (ids.length:Int):=by omega
   unfold pl463_2
   refine Uw c1 ?_
   have hr0l:(rows0 ids).length = ids.length:=by simp [rows0]
   by_cases h0:ids.length = 0
   ·have hne:ids = []:=List.length_eq_zero_iff.1 h0
    subst hne
    have hgc:gCols b cols u [] = some ([],u):=rfl
    refine wp_loopI (σ:=List Int × List Int × Int × List XRow) (fun s => [(0,AV.v k0 (D.sl 1 (cols.map ei)),none),(1,AV.v k1 (D.sl 1 (b.map eb)),none),(6,AV.pl 6 0 [],some (Rt.vir [C.own (D.sl 1 []),C.ro false (di u),C.ro false (D.bool true)])),(7,AV.v false (di s.2.2.1),none),(9,AV.pl 9 0 [],some (Rt.vir [C.own (D.sl 2 (s.2.2.2.map XRow.e))])),(45,AV.v k0 (D.sl 1 (cols.map ei)),none),(46,AV.v false (di (cols.length:Nat)),none),(47,AV.v false (di ((s.1.length:Nat):Int)),none)]) (fun s => s = ([],cols,u,[])) (fun _ => 0) ([],cols,u,[]) (by simp [rows0]) rfl ?_
    rintro s rfl
    obtain ⟨ty,hgt⟩:∃ ty,cols[0]? = some ty:=⟨_,List.getElem?_eq_getElem (by omega)⟩
    obtain ⟨hlt,hge⟩:=List.getElem?_eq_some_iff.1 hgt
    have c1:(0:Int) < (cols.length:Int):=by omega
    have hnro:=fun k0 k1:Bool => t497 k0 k1 cols [] h (by simp) (fun r hr => by simp at hr)
    simp only [List.map_nil] at hnro
    have hnput:=fun k0 k1:Bool => t498 k0 k1 cols [] h (by simp) (fun r hr => by simp at hr)
    simp only [List.map_nil] at hnput
    unfold pl463_1
    skip
    cases hro:rowsOkF cols [] with
    | false =>
     have hd:ggF cols b = none:=by rw [ggF_yes hg hco hgc,if_neg (by rw [hro]; simp)]
     refine Uw (J8 c1 hgt hlt hge hnro hnput h (J2 hro hd)) ?_
     all_goals refine blkQ_exit' (by decide) ?_
     refine Uw (J8 c1 hgt hlt hge hnro hnput h (J2 hro hd)) ?_
     simp [pf463,hd]
    | true =>
     have hput:=ggF_put hb hg hgc hro
     have hse:=strEq (putGF_ok cols []) hb
     by_cases e3:putGF cols [] = b
     ·have e4:((strOf (putGF cols [])).toList == (strOf b).toList) = true:=by rw [hse]; simpa using e3
      have hd:ggF cols b = some []:=by rw [ggF_yes hg hco hgc,if_pos ⟨hput.1 e3.symm,hro⟩]
      refine Uw (J8 c1 hgt hlt hge hnro hnput h (J3 hro e4 hd)) ?_
      all_goals refine blkQ_exit' (by decide) ?_
      refine Uw (J8 c1 hgt hlt hge hnro hnput h (J3 hro e4 hd)) ?_
      simp [pf463,hd]
     ·have e4:((strOf (putGF cols [])).toList == (strOf b).toList) = false:=by rw [hse]; simpa using e3
      have hd:ggF cols b = none:=by rw [ggF_yes hg hco hgc,if_neg (fun e => e3 (hput.2 e.1).symm)]
      refine Uw (J8 c1 hgt hlt hge hnro hnput h (J3 hro e4 hd)) ?_
      all_goals refine blkQ_exit' (by decide) ?_
      refine Uw (J8 c1 hgt hlt hge hnro hnput h (J3 hro e4 hd)) ?_
      simp [pf463,hd]
   ·have hne:¬ ids = []:=fun e => h0 (by rw [e]; rfl)
    have hgce:gCols b cols u ids = getCols b (ids.length:Int) cols u (rows0 ids):=by unfold gCols; rw [if_neg h0]
    have hip:(0:Int) < (ids.length:Int):=by omega
    refine wp_loopI (σ:=List Int × List Int × Int × List XRow) (fun s => [(0,AV.v k0 (D.sl 1 (cols.map ei)),none),(1,AV.v k1 (D.sl 1 (b.map eb)),none),(6,AV.pl 6 0 [],some (Rt.vir [C.own (D.sl 1 (ids.map ei)),C.ro false (di u),C.ro false (D.bool true)])),(7,AV.v false (di s.2.2.1),none),(9,AV.pl 9 0 [],some (Rt.vir [C.own (D.sl 2 (s.2.2.2.map XRow.e))])),(45,AV.v k0 (D.sl 1 (cols.map ei)),none),(46,AV.v false (di (cols.length:Nat)),none),(47,AV.v false (di ((s.1.length:Nat):Int)),none)]) (fun s => cols = s.1 ++ s.2.1∧gCols b cols u ids = getCols b (ids.length:Int) s.2.1 s.2.2.1 s.2.2.2∧s.2.2.2.length = ids.length∧allL s.1.length s.2.2.2∧XRow.sms s.2.2.2∧0≤s.2.2.1∧s.2.2.1≤(b.length:Int)) (fun s => s.2.1.length) ([],cols,u,rows0 ids) (by simp) ⟨rfl,hgce,hr0l,rows0_all ids,rows0_sms ids,i3,i4⟩ ?_
    rintro ⟨pre,rest,v,rows⟩ ⟨z1,z2,z4,z5,z6,z7,z8⟩
    simp only at z1 z2 z4 z5 z6 z7 z8
    have z3:cols.length = pre.length + rest.length:=by rw [z1,List.length_append]
    rcases rest with _ | ⟨ty,rest⟩
    ·simp only [List.length_nil] at z3
     have hgc:gCols b cols u ids = some (rows,v):=z2
     have hrl2:rows.length≤1048576:=by omega
     have hrs:=z6
     have c1:¬ (pre.length:Int) < (cols.length:Int):=by omega
     unfold pl463_1
     skip
     cases hro:rowsOkF cols rows with
     | false =>
      have hd:ggF cols b = none:=by rw [ggF_yes hg hco hgc,if_neg (by rw [hro]; simp)]
      refine Uw (J6 c1 h hro hrl2 hrs hd) ?_
      simp [pf463,hd]
     | true =>
      have hput:=ggF_put hb hg hgc hro
      have hse:=strEq (putGF_ok cols rows) hb
      by_cases e3:putGF cols rows = b
      ·have e4:((strOf (putGF cols rows)).toList == (strOf b).toList) = true:=by rw [hse]; simpa using e3
       have hd:ggF cols b = some rows:=by rw [ggF_yes hg hco hgc,if_pos ⟨hput.1 e3.symm,hro⟩]
       refine Uw (J7 c1 h hro hrl2 hrs e4 hd) ?_
       simp [pf463,hd]
      ·have e4:((strOf (putGF cols rows)).toList == (strOf b).toList) = false:=by rw [hse]; simpa using e3
       have hd:ggF cols b = none:=by rw [ggF_yes hg hco hgc,if_neg (fun e => e3 (hput.2 e.1).symm)]
       refine Uw (J7 c1 h hro hrl2 hrs e4 hd) ?_
       simp [pf463,hd]
    ·simp only [List.length_cons] at z3
     have hgt:cols[pre.length]? = some ty:=by rw [z1]; simp
     have hty:=cty ty (List.mem_of_getElem? hgt)
     obtain ⟨hlt,hge⟩:=List.getElem?_eq_some_iff.1 hgt
     have c1:(pre.length:Int) < (cols.length:Int):=by omega
     have hw:=Wi ((pre.length:Int) + 1)
     unfold pl463_1
     cases hgn:gN b v with
     | none =>
      have hd:ggF cols b = none:=ggF_ng hg (by rw [z2,getCols_no1 hgn])
      refine Uw (J8 hgt hge hlt c1 hw hne hip (J4 h2 hb hgn hd)) ?_ ?_
      all_goals repeat intro hc
      all_goals first | exact absurd ‹ids = []› hne | (simp [pf463,hd]; done)
     | some q =>
      obtain ⟨n,t⟩:=q
      obtain ⟨g1,g2,g3,g4,g5⟩:=gN_can hb hgn
      have w1:=Wi ((b.length:Int) - t)
      by_cases hwi:0≤n∧n≤(b.length:Int) - t
      ·obtain ⟨nn,rfl⟩:=Int.eq_ofNat_of_zero_le hwi.1
       obtain ⟨tt,rfl⟩:=Int.eq_ofNat_of_zero_le (show (0:Int)≤t by omega)
       have w2:=Wi ((tt:Int) + (nn:Int))
       have w3:((tt:Int) + (nn:Int)).toNat = tt + nn:=by omega
       have p1:=hwi.1
       have p2:=hwi.2
       have p3:tt + nn≤b.length:=by omega
       have p4:(tt:Int) + (nn:Int)≤(b.length:Int):=by omega
       have p5:(tt:Int)≤(tt:Int) + (nn:Int):=by omega
       have hsb:bytesOk (segB b tt nn):=bytesOk_drop _ (bytesOk_take _ hb)
       have hsl:(segB b tt nn).length≤1048576:=by simp only [segB,List.length_drop,List.length_take]; omega
       have hsg:List.drop tt (List.take (tt + nn) (List.map eb b)) = List.map eb (segB b tt nn):=by
        simp only [segB,List.map_drop,List.map_take]; rw [w3,show ((tt:Int)).toNat = tt by omega]
       have p6:(0:Int)≤(tt:Int) + (nn:Int):=by omega
       have kk:1≤ids.length∧ids.length≤64:=by omega
       have kk2:(1:Int)≤(ids.length:Int)∧(ids.length:Int)≤64:=by omega
       have hdc:=fun kb:Bool => t496 kb (segB b tt nn) ty (ids.length:Int) hsl hsb hty kk2
       cases hdv:decC (segB b tt nn) ty (ids.length:Int) with
       | none =>
        have hd:ggF cols b = none:=ggF_ng hg (by rw [z2,getCols_no3 hgn hwi hdv])
        rw [hdv] at hdc
        refine Uw (J8 hgt hge hlt c1 hw hne hip (J8 h2 hb hgn w1 w2 w3 p1 (J8 p2 p3 p4 p5 p6 hsg hdc hd))) ?_ ?_
        all_goals repeat intro hc
        all_goals first | exact absurd ‹ids = []› hne | (simp [pf463,hd]; done)
       | some vs =>
        rw [hdv] at hdc
        have hvl:=(decC_some hsb hdv).1
        have hvs:=decC_sms hsb hty hdv
        rw [getCols_yes hgn hwi hdv] at z2
        have hrv:rows.length = vs.length:=by omega
        have hal:=addCol_len hrv
        refine Uw (J8 hgt hge hlt c1 hw hne hip (J8 h2 hb hgn w1 w2 w3 p1 (J7 p2 p3 p4 p5 p6 hsg hdc))) ?_ ?_
        all_goals repeat intro hc
        all_goals first | exact absurd ‹ids = []› hne | skip
        refine wp_loopI (σ:=List XRow × List XRow × List XVal × List XVal) (fun s => [(0,AV.v k0 (D.sl 1 (cols.map ei)),none),(1,AV.v k1 (D.sl 1 (b.map eb)),none),(6,AV.pl 6 0 [],some (Rt.vir [C.own (D.sl 1 (ids.map ei)),C.ro false (di u),C.ro false (D.bool true)])),(9,AV.pl 9 0 [],some (Rt.vir [C.own (D.sl 2 (s.1.map XRow.e ++ s.2.1.map XRow.e))])),(14,AV.v false (di (nn:Nat)),none),(15,AV.v false (di (tt:Nat)),none),(16,AV.v false (.bool true),some (Rt.vir [C.own (D.sl 3 (vs.map XVal.e)),C.ro false (D.bool true)])),(17,AV.pl 16 0 [],none),(45,AV.v k0 (D.sl 1 (cols.map ei)),none),(46,AV.v false (di (cols.length:Nat)),none),(47,AV.v false (di (pre.length:Nat)),none),(88,AV.v false (di (rows.length:Nat)),none),(89,AV.v false (di ((s.1.length:Nat):Int)),none)]) (fun s => addCol rows vs = s.1 ++ addCol s.2.1 s.2.2.2∧s.2.1.length = s.2.2.2.length∧vs = s.2.2.1 ++ s.2.2.2∧s.2.2.1.length = s.1.length∧allL pre.length s.2.1) (fun s => s.2.1.length) ([],rows,[],vs) (by simp) ⟨rfl,hrv,rfl,rfl,z5⟩ ?_
        rintro ⟨A,R,P,W⟩ ⟨x1,x2,x3,x4,x5⟩
        simp only at x1 x2 x3 x4 x5
        have x6:vs.length = P.length + W.length:=by rw [x3,List.length_append]
        rcases R with _ | ⟨⟨a,y_L⟩,R⟩
        ·have hWn:W = []:=List.length_eq_zero_iff.1 (by simpa using x2.symm)
         subst hWn
         simp only [List.length_nil] at x6
         simp only [addCol_nil,List.append_nil] at x1
         have c1:¬ (A.length:Int) < (rows.length:Int):=by omega
         have c2:¬ (A.length:Int) < (ids.length:Int):=by omega
         unfold pl463_0
         refine Uw (J5 c1 c2 w2 hw x1) ?_
         exact ⟨(pre ++ [ty],rest,(tt:Int) + (nn:Int),A),(by simp; try omega),⟨by rw [z1]; simp,by rw [z2,x1],by simp only; rw [← x1]; omega,by simp only; rw [← x1]; simpa using addCol_all z5,by simp only; rw [← x1]; exact addCol_sms (by omega) z5 z6 hvs,by simp only; omega,by simp only; omega⟩,by simp⟩
        ·rcases W with _ | ⟨⟨dT,dN,dS⟩,W⟩
         ·simp at x2
         ·simp only [List.length_cons] at x6 x2
          have c1:(A.length:Int) < (rows.length:Int):=by omega
          have c2:(A.length:Int) < (ids.length:Int):=by omega
          have hw3:=Wi ((A.length:Int) + 1)
          have hgv:vs[A.length]? = some ⟨dT,dN,dS⟩:=by rw [x3,← x4]; simp
          obtain ⟨hvlt,hvge⟩:=List.getElem?_eq_some_iff.1 hgv
          have hyl:=x5 ⟨a,y_L⟩ (by simp)
          simp only at hyl
          have hq:(y_L.length + 1) * 32≤70368744177664:=by omega
          have q1:(A.length:Int) < (A.length:Int) + ((R.length:Int) + 1):=by omega
          have q2:A.length < A.length + (R.length + 1):=by omega
          unfold pl463_0
          refine Uw (J8 c1 c2 hw3 q1 q2 hgv hvlt (J2 hvge hq)) ?_
          exact ⟨(A ++ [⟨a,y_L ++ [⟨dT,dN,dS⟩]⟩],R,P ++ [⟨dT,dN,dS⟩],W),(by simp; try omega),⟨by rw [x1]; simp [addCol],by simp only; omega,by rw [x3]; simp,by simp [x4],fun r hr => x5 r (by simp [hr])⟩,by simp⟩
      ·have hd:ggF cols b = none:=ggF_ng hg (by rw [z2,getCols_no2 hgn hwi])
       have hwi2:(decide (0≤n) && decide (n≤(b.length:Int) - t)) = false:=by simp; omega
       by_cases hn0:0≤n
       ·have p1:¬ n≤(b.length:Int) - t:=fun e => hwi ⟨hn0,e⟩
        refine Uw (J8 hgt hge hlt c1 hw hne hip (J7 h2 hb hgn w1 hn0 p1 hd)) ?_ ?_
        all_goals repeat intro hc
        all_goals first | exact absurd ‹ids = []› hne | (simp [pf463,hd]; done)
       ·refine Uw (J8 hgt hge hlt c1 hw hne hip (J6 h2 hb hgn w1 hn0 hd)) ?_ ?_
        all_goals repeat intro hc
        all_goals first | exact absurd ‹ids = []› hne | (simp [pf463,hd]; done)
  ·simp only [List.length_cons] at y3
   have hgi:ids[pre.length]? = some d:=by rw [y1]; simp
   obtain ⟨hlt,hge⟩:=List.getElem?_eq_some_iff.1 hgi
   have c1:(pre.length:Int) < (ids.length:Int):=by omega
   have hw:=Wi ((pre.length:Int) + 1)
   have hq:(pre.length + 1) * 32≤70368744177664:=by omega
   have hrp:(rows0 pre).length = pre.length:=by simp [rows0]
   have hq2:((rows0 pre).length + 1) * 32≤70368744177664:=by omega
   unfold pl463_2
   refine Uw (J8 hgi hge hlt c1 hw hrp hq hq2) ?_
   exact ⟨(pre ++ [d],rest),(by simp [rows0]; try omega),by rw [y1]; simp,by simp⟩
 ·have hd:ggF cols b = none:=ggF_nc hco
  refine Uw (J6 h h2 hb hg hco hd) ?_
  simp [pf463,hd]

theorem t462 (k0 k1:Bool) (cols b:List Int) (h:cols.length≤1048576) (h2:b.length≤1048576) (hb:bytesOk b):Gw TT 462 [.one (.ro k0 (.sl 1 (cols.map ei))),.one (.ro k1 (.sl 1 (b.map eb)))] = some (ggV (ggF cols b),[]):=by
 refine Ga pf462 pb462 ?_
 unfold pb462
 cases hg:gNs b 0 with
 | none =>
  have hd:ggF cols b = none:=ggF_no hg
  refine Ud (J5 h h2 hb hg hd) ?_
  simp [pf462,hd]
 | some q =>
 obtain ⟨ids,u⟩:=q
 obtain ⟨i1,i2,i3,i4,i5⟩:=gNs_can hb hg
 by_cases hco:colsOk cols = true
 ·skip
  by_cases hbig:12 < ids.length
  ·have hd:ggF cols b = none:=ggF_big hb hg hbig
   have hbg:(12:Int) < (ids.length:Int):=by omega
   refine Ud (J7 h h2 hb hg hco hbg hd) ?_
   simp [pf462,hd]
  have hbg:¬ (12:Int) < (ids.length:Int):=by omega
  obtain ⟨cl1,cl2⟩:=colsOk_len hco
  have cty:=colsOk_mem hco
  refine Ud (J6 h h2 hb hg hco hbg) ?_
  refine wp_loopI (σ:=List Int × List Int) (fun s => [(0,AV.v k0 (D.sl 1 (cols.map ei)),none),(1,AV.v k1 (D.sl 1 (b.map eb)),none),(6,AV.pl 6 0 [],some (Rt.vir [C.own (D.sl 2 [])])),(7,AV.pl 7 0 [],some (Rt.vir [C.own (D.sl 1 (ids.map ei)),C.ro false (di u),C.ro false (D.bool true)])),(8,AV.v false (di u),none),(10,AV.pl 10 0 [],some (Rt.vir [C.own (D.sl 2 ((rows0 s.1).map XRow.e))])),(11,AV.v false (di ((s.1.length:Nat):Int)),none)]) (fun s => ids = s.1 ++ s.2) (fun s => s.2.length) ([],ids) (by simp [rows0]) rfl ?_
  rintro ⟨pre,rest⟩ y1
  simp only at y1
  have y3:ids.length = pre.length + rest.length:=by rw [y1,List.length_append]
  rcases rest with _ | ⟨d,rest⟩
  ·simp only [List.length_nil] at y3
   simp only [List.append_nil] at y1
   subst y1
   have c1:¬ (ids.length:Int) < (ids.length:Int):=by omega
   unfold pl462_2
   refine Ud c1 ?_
   have hr0l:(rows0 ids).length = ids.length:=by simp [rows0]
   by_cases h0:ids.length = 0
   ·have hne:ids = []:=List.length_eq_zero_iff.1 h0
    subst hne
    have hgc:gCols b cols u [] = some ([],u):=rfl
    refine wp_loopI (σ:=List Int × List Int × Int × List XRow) (fun s => [(0,AV.v k0 (D.sl 1 (cols.map ei)),none),(1,AV.v k1 (D.sl 1 (b.map eb)),none),(6,AV.pl 6 0 [],some (Rt.vir [C.own (D.sl 2 [])])),(7,AV.pl 7 0 [],some (Rt.vir [C.own (D.sl 1 []),C.ro false (di u),C.ro false (D.bool true)])),(8,AV.v false (di s.2.2.1),none),(10,AV.pl 10 0 [],some (Rt.vir [C.own (D.sl 2 (s.2.2.2.map XRow.e))])),(12,AV.v false (di ((s.1.length:Nat):Int)),none)]) (fun s => s = ([],cols,u,[])) (fun _ => 0) ([],cols,u,[]) (by simp [rows0]) rfl ?_
    rintro s rfl
    obtain ⟨ty,hgt⟩:∃ ty,cols[0]? = some ty:=⟨_,List.getElem?_eq_getElem (by omega)⟩
    obtain ⟨hlt,hge⟩:=List.getElem?_eq_some_iff.1 hgt
    have c1:(0:Int) < (cols.length:Int):=by omega
    have hnro:=fun k0 k1:Bool => t493 k0 k1 cols [] h (by simp) (fun r hr => by simp at hr)
    simp only [List.map_nil] at hnro
    unfold pl462_1
    skip
    cases hro:rowsOkF cols [] with
    | false =>
     have hd:ggF cols b = none:=by rw [ggF_yes hg hco hgc,if_neg (by rw [hro]; simp)]
     refine Ud (J8 c1 hgt hlt hge hnro h hro hd) ?_ ?_
     all_goals repeat intro hc
     all_goals simp [pf462,hd]
    | true =>
     by_cases e3:u = (b.length:Int)
     ·have hd:ggF cols b = some []:=by rw [ggF_yes hg hco hgc,if_pos ⟨e3,hro⟩]
      refine Ud (J8 c1 hgt hlt hge hnro h hro (J2 e3 hd)) ?_
      simp [pf462,hd]
     ·have hd:ggF cols b = none:=by rw [ggF_yes hg hco hgc,if_neg (fun e => e3 e.1)]
      refine Ud (J8 c1 hgt hlt hge hnro h hro (J2 e3 hd)) ?_
      simp [pf462,hd]
   ·have hne:¬ ids = []:=fun e => h0 (by rw [e]; rfl)
    have hgce:gCols b cols u ids = getCols b (ids.length:Int) cols u (rows0 ids):=by unfold gCols; rw [if_neg h0]
    have hip:(0:Int) < (ids.length:Int):=by omega
    refine wp_loopI (σ:=List Int × List Int × Int × List XRow) (fun s => [(0,AV.v k0 (D.sl 1 (cols.map ei)),none),(1,AV.v k1 (D.sl 1 (b.map eb)),none),(6,AV.pl 6 0 [],some (Rt.vir [C.own (D.sl 2 [])])),(7,AV.pl 7 0 [],some (Rt.vir [C.own (D.sl 1 (ids.map ei)),C.ro false (di u),C.ro false (D.bool true)])),(8,AV.v false (di s.2.2.1),none),(10,AV.pl 10 0 [],some (Rt.vir [C.own (D.sl 2 (s.2.2.2.map XRow.e))])),(12,AV.v false (di ((s.1.length:Nat):Int)),none)]) (fun s => cols = s.1 ++ s.2.1∧gCols b cols u ids = getCols b (ids.length:Int) s.2.1 s.2.2.1 s.2.2.2∧s.2.2.2.length = ids.length∧allL s.1.length s.2.2.2∧XRow.sms s.2.2.2∧0≤s.2.2.1∧s.2.2.1≤(b.length:Int)) (fun s => s.2.1.length) ([],cols,u,rows0 ids) (by simp) ⟨rfl,hgce,hr0l,rows0_all ids,rows0_sms ids,i3,i4⟩ ?_
    rintro ⟨pre,rest,v,rows⟩ ⟨z1,z2,z4,z5,z6,z7,z8⟩
    simp only at z1 z2 z4 z5 z6 z7 z8
    have z3:cols.length = pre.length + rest.length:=by rw [z1,List.length_append]
    rcases rest with _ | ⟨ty,rest⟩
    ·simp only [List.length_nil] at z3
     have hgc:gCols b cols u ids = some (rows,v):=z2
     have hrl2:rows.length≤1048576:=by omega
     have hrs:=z6
     have c1:¬ (pre.length:Int) < (cols.length:Int):=by omega
     unfold pl462_1
     skip
     cases hro:rowsOkF cols rows with
     | false =>
      have hd:ggF cols b = none:=by rw [ggF_yes hg hco hgc,if_neg (by rw [hro]; simp)]
      refine Ud (J6 c1 h hro hrl2 hrs hd) ?_ ?_
      all_goals repeat intro hc
      all_goals simp [pf462,hd]
     | true =>
      by_cases e3:v = (b.length:Int)
      ·have hd:ggF cols b = some rows:=by rw [ggF_yes hg hco hgc,if_pos ⟨e3,hro⟩]
       refine Ud (J7 c1 h hro hrl2 hrs e3 hd) ?_
       simp [pf462,hd]
      ·have hd:ggF cols b = none:=by rw [ggF_yes hg hco hgc,if_neg (fun e => e3 e.1)]
       refine Ud (J7 c1 h hro hrl2 hrs e3 hd) ?_
       simp [pf462,hd]
    ·simp only [List.length_cons] at z3
     have hgt:cols[pre.length]? = some ty:=by rw [z1]; simp
     have hty:=cty ty (List.mem_of_getElem? hgt)
     obtain ⟨hlt,hge⟩:=List.getElem?_eq_some_iff.1 hgt
     have c1:(pre.length:Int) < (cols.length:Int):=by omega
     have hw:=Wi ((pre.length:Int) + 1)
     unfold pl462_1
     cases hgn:gN b v with
     | none =>
      have hd:ggF cols b = none:=ggF_ng hg (by rw [z2,getCols_no1 hgn])
      refine Ud (J8 hgt hge hlt c1 hw hne hip (J4 h2 hb hgn hd)) ?_ ?_
      all_goals repeat intro hc
      all_goals first | exact absurd ‹ids = []› hne | (simp [pf462,hd]; done)
     | some q =>
      obtain ⟨n,t⟩:=q
      obtain ⟨g1,g2,g3,g4,g5⟩:=gN_can hb hgn
      have w1:=Wi ((b.length:Int) - t)
      by_cases hwi:0≤n∧n≤(b.length:Int) - t
      ·obtain ⟨nn,rfl⟩:=Int.eq_ofNat_of_zero_le hwi.1
       obtain ⟨tt,rfl⟩:=Int.eq_ofNat_of_zero_le (show (0:Int)≤t by omega)
       have w2:=Wi ((tt:Int) + (nn:Int))
       have w3:((tt:Int) + (nn:Int)).toNat = tt + nn:=by omega
       have p1:=hwi.1
       have p2:=hwi.2
       have p3:tt + nn≤b.length:=by omega
       have p4:(tt:Int) + (nn:Int)≤(b.length:Int):=by omega
       have p5:(tt:Int)≤(tt:Int) + (nn:Int):=by omega
       have hsb:bytesOk (segB b tt nn):=bytesOk_drop _ (bytesOk_take _ hb)
       have hsl:(segB b tt nn).length≤1048576:=by simp only [segB,List.length_drop,List.length_take]; omega
       have hsg:List.drop tt (List.take (tt + nn) (List.map eb b)) = List.map eb (segB b tt nn):=by
        simp only [segB,List.map_drop,List.map_take]; rw [w3,show ((tt:Int)).toNat = tt by omega]
       have p6:(0:Int)≤(tt:Int) + (nn:Int):=by omega
       have kk:1≤ids.length∧ids.length≤64:=by omega
       have kk2:(1:Int)≤(ids.length:Int)∧(ids.length:Int)≤64:=by omega
       have hdc:=fun kb:Bool => t492 kb (segB b tt nn) ty (ids.length:Int) hsl hsb hty kk2
       cases hdv:decC (segB b tt nn) ty (ids.length:Int) with
       | none =>
        have hd:ggF cols b = none:=ggF_ng hg (by rw [z2,getCols_no3 hgn hwi hdv])
        rw [hdv] at hdc
        refine Ud (J8 hgt hge hlt c1 hw hne hip (J8 h2 hb hgn w1 w2 w3 p1 (J8 p2 p3 p4 p5 p6 hsg hdc hd))) ?_ ?_
        all_goals repeat intro hc
        all_goals first | exact absurd ‹ids = []› hne | (simp [pf462,hd]; done)
       | some vs =>
        rw [hdv] at hdc
        have hvl:=(decC_some hsb hdv).1
        have hvs:=decC_sms hsb hty hdv
        rw [getCols_yes hgn hwi hdv] at z2
        have hrv:rows.length = vs.length:=by omega
        have hal:=addCol_len hrv
        refine Ud (J8 hgt hge hlt c1 hw hne hip (J8 h2 hb hgn w1 w2 w3 p1 (J7 p2 p3 p4 p5 p6 hsg hdc))) ?_ ?_
        all_goals repeat intro hc
        all_goals first | exact absurd ‹ids = []› hne | skip
        refine wp_loopI (σ:=List XRow × List XRow × List XVal × List XVal) (fun s => [(0,AV.v k0 (D.sl 1 (cols.map ei)),none),(1,AV.v k1 (D.sl 1 (b.map eb)),none),(6,AV.pl 6 0 [],some (Rt.vir [C.own (D.sl 2 [])])),(7,AV.pl 7 0 [],some (Rt.vir [C.own (D.sl 1 (ids.map ei)),C.ro false (di u),C.ro false (D.bool true)])),(10,AV.pl 10 0 [],some (Rt.vir [C.own (D.sl 2 (s.1.map XRow.e ++ s.2.1.map XRow.e))])),(12,AV.v false (di (pre.length:Nat)),none),(13,AV.v false (di (nn:Nat)),none),(14,AV.v false (di (tt:Nat)),none),(16,AV.pl 16 0 [],some (Rt.vir [C.own (D.sl 3 (vs.map XVal.e)),C.ro false (D.bool true)])),(18,AV.v false (di ((s.1.length:Nat):Int)),none)]) (fun s => addCol rows vs = s.1 ++ addCol s.2.1 s.2.2.2∧s.2.1.length = s.2.2.2.length∧vs = s.2.2.1 ++ s.2.2.2∧s.2.2.1.length = s.1.length∧allL pre.length s.2.1) (fun s => s.2.1.length) ([],rows,[],vs) (by simp) ⟨rfl,hrv,rfl,rfl,z5⟩ ?_
        rintro ⟨A,R,P,W⟩ ⟨x1,x2,x3,x4,x5⟩
        simp only at x1 x2 x3 x4 x5
        have x6:vs.length = P.length + W.length:=by rw [x3,List.length_append]
        rcases R with _ | ⟨⟨a,y_L⟩,R⟩
        ·have hWn:W = []:=List.length_eq_zero_iff.1 (by simpa using x2.symm)
         subst hWn
         simp only [List.length_nil] at x6
         simp only [addCol_nil,List.append_nil] at x1
         have c1:¬ (A.length:Int) < (rows.length:Int):=by omega
         have c2:¬ (A.length:Int) < (ids.length:Int):=by omega
         unfold pl462_0
         refine Ud (J5 c1 c2 w2 hw x1) ?_
         exact ⟨(pre ++ [ty],rest,(tt:Int) + (nn:Int),A),(by simp; try omega),⟨by rw [z1]; simp,by rw [z2,x1],by simp only; rw [← x1]; omega,by simp only; rw [← x1]; simpa using addCol_all z5,by simp only; rw [← x1]; exact addCol_sms (by omega) z5 z6 hvs,by simp only; omega,by simp only; omega⟩,by simp⟩
        ·rcases W with _ | ⟨⟨dT,dN,dS⟩,W⟩
         ·simp at x2
         ·simp only [List.length_cons] at x6 x2
          have c1:(A.length:Int) < (rows.length:Int):=by omega
          have c2:(A.length:Int) < (ids.length:Int):=by omega
          have hw3:=Wi ((A.length:Int) + 1)
          have hgv:vs[A.length]? = some ⟨dT,dN,dS⟩:=by rw [x3,← x4]; simp
          obtain ⟨hvlt,hvge⟩:=List.getElem?_eq_some_iff.1 hgv
          have hyl:=x5 ⟨a,y_L⟩ (by simp)
          simp only at hyl
          have hq:(y_L.length + 1) * 32≤70368744177664:=by omega
          have q1:(A.length:Int) < (A.length:Int) + ((R.length:Int) + 1):=by omega
          have q2:A.length < A.length + (R.length + 1):=by omega
          unfold pl462_0
          refine Ud (J8 c1 c2 hw3 q1 q2 hgv hvlt (J2 hvge hq)) ?_
          exact ⟨(A ++ [⟨a,y_L ++ [⟨dT,dN,dS⟩]⟩],R,P ++ [⟨dT,dN,dS⟩],W),(by simp; try omega),⟨by rw [x1]; simp [addCol],by simp only; omega,by rw [x3]; simp,by simp [x4],fun r hr => x5 r (by simp [hr])⟩,by simp⟩
      ·have hd:ggF cols b = none:=ggF_ng hg (by rw [z2,getCols_no2 hgn hwi])
       have hwi2:(decide (0≤n) && decide (n≤(b.length:Int) - t)) = false:=by simp; omega
       by_cases hn0:0≤n
       ·have p1:¬ n≤(b.length:Int) - t:=fun e => hwi ⟨hn0,e⟩
        refine Ud (J8 hgt hge hlt c1 hw hne hip (J7 h2 hb hgn w1 hn0 p1 hd)) ?_ ?_
        all_goals repeat intro hc
        all_goals first | exact absurd ‹ids = []› hne | (simp [pf462,hd]; done)
       ·refine Ud (J8 hgt hge hlt c1 hw hne hip (J6 h2 hb hgn w1 hn0 hd)) ?_ ?_
        all_goals repeat intro hc
        all_goals first | exact absurd ‹ids = []› hne | (simp [pf462,hd]; done)
  ·simp only [List.length_cons] at y3
   have hgi:ids[pre.length]? = some d:=by rw [y1]; simp
   obtain ⟨hlt,hge⟩:=List.getElem?_eq_some_iff.1 hgi
   have c1:(pre.length:Int) < (ids.length:Int):=by omega
   have hw:=Wi ((pre.length:Int) + 1)
   have hq:(pre.length + 1) * 32≤70368744177664:=by omega
   have hrp:(rows0 pre).length = pre.length:=by simp [rows0]
   have hq2:((rows0 pre).length + 1) * 32≤70368744177664:=by omega
   unfold pl462_2
   refine Ud (J8 hgi hge hlt c1 hw hrp hq hq2) ?_
   exact ⟨(pre ++ [d],rest),(by simp [rows0]; try omega),by rw [y1]; simp,by simp⟩
 ·have hd:ggF cols b = none:=ggF_nc hco
  refine Ud (J6 h h2 hb hg hco hd) ?_
  simp [pf462,hd]

/-- The rows of a reference's group. -/
def grpF (cols:List Int) (B:List XBuf) (r:XRef):List XRow:=if r.Kind = 2∧thereF B r.Buf r.Gen r.Kind r.Many = true then (match B[r.Buf.toNat]? with
 | some b => (ggF cols b.G).getD []
 | none => []) else []
def placesOfF (cols:List Int) (B:List XBuf) (r:XRef):Int:=if isChunkB B r = true then (match B[r.Buf.toNat]? with
 | some b => (b.C.L.length:Int)
 | none => 0) else ((grpF cols B r).length:Int)
theorem thereF_get {B:List XBuf} {buf gen kind many:Int} (h:thereF B buf gen kind many = true):∃ b,B[buf.toNat]? = some b∧0≤buf∧buf < (B.length:Int)∧b ∈ B:=by
 by_cases hb:0≤buf∧buf < (B.length:Int)
 ·have:B[buf.toNat]? = some B[buf.toNat]:=List.getElem?_eq_getElem (by omega)
  exact ⟨_,this,hb.1,hb.2,List.mem_of_getElem? this⟩
 ·rw [thereF_out hb] at h; cases h

@[simp] theorem t449 (k0:Bool) (a:List Int) (af ag:Int) (ah x_T:Int) (x_E ai:Int) (aj:List XRef) (x_B:List XBuf) (x_M:List Int) (x_X:List XDead) (x_P:List Int) (ak:List XTask) (al:List XDeed) (aa ab:Int) (ae ad ac:Int) (h:x_B.length≤1048576) (hcl:a.length≤1048576) (hG:∀ b ∈ x_B,b.G.length≤1048576∧bytesOk b.G):Gw TT 449 [.st [.ro k0 (.sl 1 (a.map ei)),.ro false (di af),.ro false (di ag),.ro false (di ah),.ro false (di x_T),.ro false (di x_E),.ro false (di ai),.ro k0 (.sl 5 (aj.map XRef.e)),.ro k0 (.sl 5 (x_B.map XBuf.e)),.ro k0 (.sl 1 (x_M.map ei)),.ro k0 (.sl 3 (x_X.map XDead.e)),.ro k0 (.sl 1 (x_P.map ei)),.ro k0 (.sl 25 (ak.map XTask.e)),.ro k0 (.sl 25 (al.map XDeed.e))],.st [.ro false (di aa),.ro false (di ab),.ro false (di ae),.ro false (di ad),.ro false (di ac)]] = some (.one (.own (.sl 2 ((grpF a x_B ⟨aa,ab,ae,ad,ac⟩).map XRow.e))),[]):=by
 refine Ga pf449 pb449 ?_
 unfold pb449
 by_cases hk:ae = 2
 ·subst hk
  cases ht:thereF x_B aa ab 2 ac with
  | false =>
   have hg:grpF a x_B ⟨aa,ab,2,ad,ac⟩ = []:=by unfold grpF; rw [if_neg (by rw [ht]; simp)]
   refine Ua (J2 h ht) ?_
   simp [pf449,hg]
  | true =>
   obtain ⟨⟨bg,bk,⟨bn,bL⟩,bG⟩,hb,hb0,hb1,hbm⟩:=thereF_get ht
   obtain ⟨hG1,hG2⟩:=hG _ hbm
   simp only at hG1 hG2
   obtain ⟨hlt,he⟩:=List.getElem?_eq_some_iff.1 hb
   have hget:=fun k0 k1:Bool => t463 k0 k1 a bG hcl hG1 hG2
   cases hgg:ggF a bG with
   | none =>
    have hg:grpF a x_B ⟨aa,ab,2,ad,ac⟩ = []:=by unfold grpF; rw [if_pos ⟨rfl,ht⟩]; simp only; rw [hb]; simp [hgg]
    rw [hgg] at hget
    refine Ua (J8 h ht hb0 hb1 he hb hlt hget) ?_
    simp [pf449,hg]
   | some l =>
    have hg:grpF a x_B ⟨aa,ab,2,ad,ac⟩ = l:=by unfold grpF; rw [if_pos ⟨rfl,ht⟩]; simp only; rw [hb]; simp [hgg]
    rw [hgg] at hget
    refine Ua (J8 h ht hb0 hb1 he hb hlt hget) ?_
    simp [pf449,hg]
 ·have hg:grpF a x_B ⟨aa,ab,ae,ad,ac⟩ = []:=by unfold grpF; rw [if_neg (fun e => hk e.1)]
  refine Ua (J2 h hk) ?_
  simp [pf449,hg]

theorem t446 (k0:Bool) (a:List Int) (ab ac:Int) (ad x_T:Int) (x_E ae:Int) (af:List XRef) (x_B:List XBuf) (x_M:List Int) (x_X:List XDead) (x_P:List Int) (ag:List XTask) (ah:List XDeed) (aa ai:Int) (aj ak al:Int) (bg bk bn:Int) (bL:List XSlot) (bG:List Int) (hb:x_B[aa.toNat]? = some ⟨bg,bk,⟨bn,bL⟩,bG⟩) (hb0:0≤aa) (hb1:aa < (x_B.length:Int)) (hcl:a.length≤1048576) (hG1:bG.length≤1048576) (hG2:bytesOk bG) :
  Gw TT 446 [.st [.ro k0 (.sl 1 (a.map ei)),.ro false (di ab),.ro false (di ac),.ro false (di ad),.ro false (di x_T),.ro false (di x_E),.ro false (di ae),.ro k0 (.sl 5 (af.map XRef.e)),.ro k0 (.sl 5 (x_B.map XBuf.e)),.ro k0 (.sl 1 (x_M.map ei)),.ro k0 (.sl 3 (x_X.map XDead.e)),.ro k0 (.sl 1 (x_P.map ei)),.ro k0 (.sl 25 (ag.map XTask.e)),.ro k0 (.sl 25 (ah.map XDeed.e))],.st [.ro false (di aa),.ro false (di ai),.ro false (di aj),.ro false (di ak),.ro false (di al)]] = some (.one (.own (.sl 2 (((ggF a bG).getD []).map XRow.e))),[]):=by
 refine Ga pf446 pb446 ?_
 unfold pb446
 obtain ⟨hlt,he⟩:=List.getElem?_eq_some_iff.1 hb
 have hget:=fun k0 k1:Bool => t462 k0 k1 a bG hcl hG1 hG2
 cases hgg:ggF a bG with
 | none =>
  rw [hgg] at hget
  refine Ua (J6 hb0 hb1 he hb hlt hget) ?_
  simp [pf446]
 | some l =>
  rw [hgg] at hget
  refine Ua (J6 hb0 hb1 he hb hlt hget) ?_
  simp [pf446]

def rowAtF (cols:List Int) (B:List XBuf) (r:XRef) (j:Int):Option XRow:=if isChunkB B r = true then (match B[r.Buf.toNat]? with
 | some b => if 0≤j then (match b.C.L[j.toNat]? with
  | some s => some ⟨IntKind.wrap .i64 (r.First + j),s.L⟩
  | none => none) else none
 | none => none) else if 0≤j then (grpF cols B r)[j.toNat]? else none
def raV (r:Option XRow):V:=match r with
 | some x => .tup [.st [.ro false (di x.Id),.own (.sl 3 (x.L.map XVal.e))],vb true]
 | none => .tup [.st [.ro false (di 0),.own (.sl 3 [])],vb false]
@[simp] theorem raV_some (a:Int) (l:List XVal):raV (some ⟨a,l⟩) = .tup [.st [.ro false (di a),.own (.sl 3 (l.map XVal.e))],vb true]:=rfl
@[simp] theorem raV_none:raV none = .tup [.st [.ro false (di 0),.own (.sl 3 [])],vb false]:=rfl
theorem raF_slot {cols:List Int} {B:List XBuf} {r:XRef} {m:Nat} {b:XBuf} {s:XSlot} (hc:isChunkB B r = true) (hb:B[r.Buf.toNat]? = some b) (hm:b.C.L[m]? = some s):rowAtF cols B r (m:Int) = some ⟨IntKind.wrap .i64 (r.First + (m:Int)),s.L⟩:=by
 unfold rowAtF; rw [if_pos hc,hb]; simp only; rw [if_pos (by omega),show ((m:Int)).toNat = m by omega,hm]
theorem raF_noslot {cols:List Int} {B:List XBuf} {r:XRef} {j:Int} {b:XBuf} (hc:isChunkB B r = true) (hb:B[r.Buf.toNat]? = some b) (hm:¬ (0≤j∧j < (b.C.L.length:Int))):rowAtF cols B r j = none:=by
 unfold rowAtF; rw [if_pos hc,hb]; simp only
 split
 ·rw [List.getElem?_eq_none (by omega)]
 ·rfl
theorem raF_row {cols:List Int} {B:List XBuf} {r:XRef} {m:Nat} {x:XRow} (hc:¬ isChunkB B r = true) (hm:(grpF cols B r)[m]? = some x):rowAtF cols B r (m:Int) = some x:=by
 unfold rowAtF; rw [if_neg hc,if_pos (by omega),show ((m:Int)).toNat = m by omega,hm]
theorem raF_norow {cols:List Int} {B:List XBuf} {r:XRef} {j:Int} (hc:¬ isChunkB B r = true) (hm:¬ (0≤j∧j < ((grpF cols B r).length:Int))):rowAtF cols B r j = none:=by
 unfold rowAtF; rw [if_neg hc]
 split
 ·rw [List.getElem?_eq_none (by omega)]
 ·rfl

theorem ggF_len (cols b:List Int):((ggF cols b).getD []).length≤1048576:=by
 cases hg:ggF cols b with
 | none => simp
 | some l =>
  unfold ggF at hg
  split at hg
  ·split at hg
   ·split at hg
    ·split at hg
     ·rename_i hh
      simp only [Option.some.injEq] at hg
      subst hg
      have:=(rowsOkF_props hh.2).2.1
      simp; omega
     ·cases hg
    ·cases hg
   ·cases hg
  ·cases hg
theorem rowsL_sms {cols:List Int} (hc:cols.length≤3):∀ {l:List XRow} {p:Option Int},rowsL cols p l = true→∀ r ∈ l,r.L.length≤3
 | [],_,_,r,hr => by simp at hr
 | x :: l,p,h,r,hr => by
  simp only [rowsL] at h
  split at h
  ·rename_i hx
   rcases List.mem_cons.1 hr with rfl | hr
   ·have:=hx.1
    simp only [rowOkF,fitsF,Bool.and_eq_true,decide_eq_true_eq] at this
    omega
   ·exact rowsL_sms hc h r hr
  ·cases h
theorem ggF_rows (cols b:List Int):∀ r ∈ (ggF cols b).getD [],r.L.length≤3:=by
 cases hg:ggF cols b with
 | none => intro r hr; simp at hr
 | some l =>
  unfold ggF at hg
  split at hg
  ·split at hg
   ·rename_i hco
    split at hg
    ·split at hg
     ·rename_i hh
      simp only [Option.some.injEq] at hg
      subst hg
      have h3:=hh.2
      simp only [rowsOkF,Bool.and_eq_true] at h3
      exact fun r hr => rowsL_sms (colsOk_len hco).2 h3.2.2 r (by simpa using hr)
     ·cases hg
    ·cases hg
   ·cases hg
  ·cases hg

theorem t424 (k0:Bool) (a:List Int) (af ag:Int) (ah x_T:Int) (x_E ai:Int) (aj:List XRef) (x_B:List XBuf) (x_M:List Int) (x_X:List XDead) (x_P:List Int) (ak:List XTask) (al:List XDeed) (ab ac:Int) (aa ad:Int) (ae j:Int) (h:x_B.length≤1048576) (hs:XBuf.sms x_B) (hcl:a.length≤1048576) (hG:∀ b ∈ x_B,b.G.length≤1048576∧bytesOk b.G):Gw TT 424 [.st [.ro k0 (.sl 1 (a.map ei)),.ro false (di af),.ro false (di ag),.ro false (di ah),.ro false (di x_T),.ro false (di x_E),.ro false (di ai),.ro k0 (.sl 5 (aj.map XRef.e)),.ro k0 (.sl 5 (x_B.map XBuf.e)),.ro k0 (.sl 1 (x_M.map ei)),.ro k0 (.sl 3 (x_X.map XDead.e)),.ro k0 (.sl 1 (x_P.map ei)),.ro k0 (.sl 25 (ak.map XTask.e)),.ro k0 (.sl 25 (al.map XDeed.e))],.st [.ro false (di ab),.ro false (di ac),.ro false (di aa),.ro false (di ad),.ro false (di ae)],vi j] = some (raV (rowAtF a x_B ⟨ab,ac,aa,ad,ae⟩ j),[]):=by
 refine Ga pf424 pb424 ?_
 unfold pb424
 have h449:=fun k:Bool => t449 k a af ag ah x_T x_E ai aj x_B x_M x_X x_P ak al ab ac aa ad ae h hcl hG
 cases hch:isChunkB x_B ⟨ab,ac,aa,ad,ae⟩ with
 | true =>
  obtain ⟨⟨bg,bk,⟨bn,bL⟩,bG⟩,hb,hb0,hb1,hbm⟩:=isChunk_at hch
  simp only at hb hb0 hb1
  have h68:=fun k:Bool => t68_yes k a af ag ah x_T x_E ai aj x_B x_M x_X x_P ak al ab ac aa ad ae h hch _ hb
  by_cases q:0≤j∧j < (bL.length:Int)
  ·skip
   obtain ⟨m,rfl⟩:=Int.eq_ofNat_of_zero_le q.1
   have hm:m < bL.length:=by omega
   obtain ⟨⟨sI,sL⟩,hsm⟩:∃ s,bL[m]? = some s:=⟨_,List.getElem?_eq_getElem hm⟩
   have hse:=(List.getElem?_eq_some_iff.1 hsm).2
   have hsl:sL.length≤1048576:=((hs _ hbm).1.2 ⟨sI,sL⟩ (List.mem_of_getElem? hsm)).1
   have q0:=q.1
   have q1:=q.2
   have hr:=raF_slot (cols:=a) hch hb hsm
   simp only at hr
   refine Ud (J8 h68 q0 q1 hm hsm hse hsl hr) ?_
   repeat intro hc
   simp [pf424,hr]
  ·have hr:=raF_noslot (cols:=a) hch hb q
   have hk1:aa = 1:=by simp only [isChunkB,Bool.and_eq_true,beq_iff_eq] at hch; exact hch.1
   have hg:grpF a x_B ⟨ab,ac,aa,ad,ae⟩ = []:=by unfold grpF; rw [if_neg (fun e => by simp only at e; omega)]
   rw [hg] at h449
   simp only [List.map_nil] at h449
   by_cases q0:0≤j
   ·have q1:¬ j < (bL.length:Int):=fun e => q ⟨q0,e⟩
    have q2:¬ j < 0:=by omega
    refine Ud (J6 h68 q0 q1 q2 h449 hr) ?_
    repeat intro hc
    simp [pf424,hr]
   ·refine Ud (J4 h68 q0 h449 hr) ?_
    repeat intro hc
    simp [pf424,hr]
 | false =>
  have hnc:¬ isChunkB x_B ⟨ab,ac,aa,ad,ae⟩ = true:=by rw [hch]; simp
  have h68:=fun k:Bool => t68_no k a af ag ah x_T x_E ai aj x_B x_M x_X x_P ak al ab ac aa ad ae h hch
  obtain ⟨rows,hrows⟩:∃ l,l = grpF a x_B ⟨ab,ac,aa,ad,ae⟩:=⟨_,rfl⟩
  rw [← hrows] at h449
  by_cases q:0≤j∧j < (rows.length:Int)
  ·obtain ⟨m,rfl⟩:=Int.eq_ofNat_of_zero_le q.1
   have hm:m < rows.length:=by omega
   obtain ⟨⟨am,y_L⟩,hsm⟩:∃ s,rows[m]? = some s:=⟨_,List.getElem?_eq_getElem hm⟩
   have hse:=(List.getElem?_eq_some_iff.1 hsm).2
   have q0:=q.1
   have q1:=q.2
   have hr:=raF_row hnc (by rw [← hrows]; exact hsm)
   refine Ud (J8 h68 h449 q0 q1 hm hsm hse hr) ?_
   repeat intro hc
   simp [pf424,hr]
  ·have hr:=raF_norow (j:=j) hnc (by rw [← hrows]; exact q)
   by_cases q0:0≤j
   ·have q1:¬ j < (rows.length:Int):=fun e => q ⟨q0,e⟩
    refine Ud (J5 h68 h449 q0 q1 hr) ?_
    repeat intro hc
    simp [pf424,hr]
   ·refine Ud (J4 h68 h449 q0 hr) ?_
    repeat intro hc
    simp [pf424,hr]

theorem t423 (k0:Bool) (a:List Int) (af ag:Int) (ah x_T:Int) (x_E ai:Int) (aj:List XRef) (x_B:List XBuf) (x_M:List Int) (x_X:List XDead) (x_P:List Int) (ak:List XTask) (al:List XDeed) (ab ac:Int) (aa ae:Int) (ad j:Int) (h:x_B.length≤1048576) (hs:XBuf.sms x_B) (hcl:a.length≤1048576) (hG:∀ b ∈ x_B,b.G.length≤1048576∧bytesOk b.G):Gw TT 423 [.st [.ro k0 (.sl 1 (a.map ei)),.ro false (di af),.ro false (di ag),.ro false (di ah),.ro false (di x_T),.ro false (di x_E),.ro false (di ai),.ro k0 (.sl 5 (aj.map XRef.e)),.ro k0 (.sl 5 (x_B.map XBuf.e)),.ro k0 (.sl 1 (x_M.map ei)),.ro k0 (.sl 3 (x_X.map XDead.e)),.ro k0 (.sl 1 (x_P.map ei)),.ro k0 (.sl 25 (ak.map XTask.e)),.ro k0 (.sl 25 (al.map XDeed.e))],.st [.ro false (di ab),.ro false (di ac),.ro false (di aa),.ro false (di ae),.ro false (di ad)],vi j] = some (raV (rowAtF a x_B ⟨ab,ac,aa,ae,ad⟩ j),[]):=by
 refine Ga pf423 pb423 ?_
 unfold pb423
 cases ht:thereF x_B ab ac aa ad with
 | false =>
  have hnc:¬ isChunkB x_B ⟨ab,ac,aa,ae,ad⟩ = true:=by simp only [isChunkB]; rw [ht]; simp
  have hg:grpF a x_B ⟨ab,ac,aa,ae,ad⟩ = []:=by unfold grpF; rw [if_neg (by simp only; rw [ht]; simp)]
  have hr:=raF_norow (j:=j) hnc (by rw [hg]; simp only [List.length_nil]; omega)
  refine Ud (J3 h ht hr) ?_
  repeat intro hc
  simp [pf423,hr]
 | true =>
  obtain ⟨⟨bg,bk,⟨bn,bL⟩,bG⟩,hb,hb0,hb1,hbm⟩:=thereF_get ht
  obtain ⟨hG1,hG2⟩:=hG _ hbm
  simp only at hG1 hG2
  obtain ⟨hlt,he⟩:=List.getElem?_eq_some_iff.1 hb
  have hbl:bL.length≤1048576:=(hs _ hbm).1.1
  by_cases hk:aa = 1
  ·have hch:isChunkB x_B ⟨ab,ac,aa,ae,ad⟩ = true:=by simp only [isChunkB]; rw [ht,hk]; try rfl
   have w1:=Wi ((bL.length:Int) - 1)
   by_cases q:0≤j∧j < (bL.length:Int)
   ·skip
    obtain ⟨m,rfl⟩:=Int.eq_ofNat_of_zero_le q.1
    have hm:m < bL.length:=by omega
    obtain ⟨⟨sI,sL⟩,hsm⟩:∃ s,bL[m]? = some s:=⟨_,List.getElem?_eq_getElem hm⟩
    have hse:=(List.getElem?_eq_some_iff.1 hsm).2
    have hsl:sL.length≤1048576:=((hs _ hbm).1.2 ⟨sI,sL⟩ (List.mem_of_getElem? hsm)).1
    have q0:=q.1
    have q1:=q.2
    have hr:=raF_slot (cols:=a) hch hb hsm
    simp only at hr
    have q2:(m:Int)≤(bL.length:Int) - 1:=by omega
    have hsb:sL.length * 32≤70368744177664:=by omega
    have hfl:flatD (List.map XVal.e sL) = true:=flatD_map _ _ (fun x => rfl)
    subst hk
    refine Ud (J8 h ht hb0 hb1 he hb hlt (J8 w1 q0 q1 q2 hm hsm hse (J4 hsl hsb hfl hr))) ?_
    repeat intro hc
    simp [pf423,hr]
   ·have hr:=raF_noslot (cols:=a) hch hb q
    by_cases q0:0≤j
    ·have q2:¬ j≤(bL.length:Int) - 1:=fun e => q ⟨q0,by omega⟩
     subst hk
     refine Ud (J8 h ht hb0 hb1 he hb hlt (J4 w1 q0 q2 hr)) ?_
     repeat intro hc
     simp [pf423,hr]
    ·subst hk
     refine Ud (J8 h ht hb0 hb1 he hb hlt (J3 w1 q0 hr)) ?_
     repeat intro hc
     simp [pf423,hr]
  ·have hnc:¬ isChunkB x_B ⟨ab,ac,aa,ae,ad⟩ = true:=by simp [isChunkB,hk]
   have h446:=fun k:Bool => t446 k a af ag ah x_T x_E ai aj x_B x_M x_X x_P ak al ab ac aa ae ad bg bk bn bL bG hb hb0 hb1 hcl hG1 hG2
   by_cases hk2:aa = 2
   ·obtain ⟨rows,hrows⟩:∃ l,l = grpF a x_B ⟨ab,ac,aa,ae,ad⟩:=⟨_,rfl⟩
    have hge:(ggF a bG).getD [] = rows:=by rw [hrows]; unfold grpF; rw [if_pos ⟨hk2,ht⟩]; simp only; rw [hb]
    rw [hge] at h446
    have hrl:rows.length≤1048576:=by rw [← hge]; exact ggF_len a bG
    have hrs:∀ r ∈ rows,r.L.length≤3:=by rw [← hge]; exact ggF_rows a bG
    have w1:=Wi ((rows.length:Int) - 1)
    by_cases q:0≤j∧j < (rows.length:Int)
    ·obtain ⟨m,rfl⟩:=Int.eq_ofNat_of_zero_le q.1
     have hm:m < rows.length:=by omega
     obtain ⟨⟨am,y_L⟩,hsm⟩:∃ s,rows[m]? = some s:=⟨_,List.getElem?_eq_getElem hm⟩
     have hse:=(List.getElem?_eq_some_iff.1 hsm).2
     have hyl:y_L.length≤1048576:=Nat.le_trans (hrs _ (List.mem_of_getElem? hsm)) (by omega)
     have q0:=q.1
     have q2:(m:Int)≤(rows.length:Int) - 1:=by omega
     have hr:=raF_row hnc (by rw [← hrows]; exact hsm)
     subst hk2
     refine Ud (J8 h ht h446 w1 q0 q2 hm (J4 hsm hse hyl hr)) ?_
     repeat intro hc
     simp [pf423,hr]
    ·have hr:=raF_norow (j:=j) hnc (by rw [← hrows]; exact q)
     by_cases q0:0≤j
     ·have q2:¬ j≤(rows.length:Int) - 1:=fun e => q ⟨q0,by omega⟩
      subst hk2
      refine Ud (J7 h ht h446 w1 q0 q2 hr) ?_
      repeat intro hc
      simp [pf423,hr]
     ·subst hk2
      refine Ud (J6 h ht h446 w1 q0 hr) ?_
      repeat intro hc
      simp [pf423,hr]
   ·have hg:grpF a x_B ⟨ab,ac,aa,ae,ad⟩ = []:=by unfold grpF; rw [if_neg (fun e => hk2 e.1)]
    have hr:=raF_norow (j:=j) hnc (by rw [hg]; simp only [List.length_nil]; omega)
    refine Ud (J6 h ht hk hk2 h446 hr) ?_
    repeat intro hc
    simp [pf423,hr]

@[simp] theorem t426 (k0:Bool) (a:Int) (l:List XVal) (k:Int) (h0:0≤k) (hc:k + ctVals l≤4611686018427387904):Gw TT 426 [.st [.ro false (di a),.ro k0 (.sl 3 ((mkVals k l).map XVal.e))],vi k] = some (vi (k + ctVals l),[]):=by
 refine Ga pf426 pb426 ?_
 unfold pb426
 have hn:=ctVals_nn l
 have hc1:¬ k + ctVals l < 0:=by omega
 refine Ud (J3 h0 hc hc1) ?_
 repeat intro hc
 simp [pf426]

@[simp] theorem t425 (a:Int) (l:List XVal) (k:Int) (h0:0≤k) (hc:k + ctVals l≤4611686018427387904):Gw TT 425 [.st [.ro false (di a),.own (.sl 3 (l.map XVal.e))],vi k] = some (vi (k + ctVals l),[(0,1,.own (.sl 3 ((mkVals k l).map XVal.e)))]):=by
 refine Ga pf425 pb425 ?_
 unfold pb425
 refine Ud (J2 h0 hc) ?_
 simp [pf425]

def raI (r:Option XRow):Int:=match r with
 | some x => x.Id
 | none => 0
def raL (r:Option XRow):List XVal:=match r with
 | some x => x.L
 | none => []
theorem raV_eq (r:Option XRow):raV r = .tup [.st [.ro false (di (raI r)),.own (.sl 3 ((raL r).map XVal.e))],vb r.isSome]:=by cases r <;> rfl
theorem fitsL_sms:∀ {cols:List Int} {l:List XVal},fitsL cols l = true→XVal.sms l
 | _,[],_ => fun v hv => by simp at hv
 | [],_ :: _,h => by simp [fitsL] at h
 | c :: cs,x :: l,h => fun v hv => by
  simp only [fitsL] at h
  split at h
  ·rename_i hx
   rcases List.mem_cons.1 hv with rfl | hv
   ·have:=valOkF_len hx.1
    simp only [XVal.sm]; omega
   ·exact fitsL_sms h v hv
  ·cases h
theorem rowsL_vals {cols:List Int}:∀ {l:List XRow} {p:Option Int},rowsL cols p l = true→∀ r ∈ l,XVal.sms r.L
 | [],_,_,r,hr => by simp at hr
 | x :: l,p,h,r,hr => by
  simp only [rowsL] at h
  split at h
  ·rename_i hx
   rcases List.mem_cons.1 hr with rfl | hr
   ·have:=hx.1
    simp only [rowOkF,fitsF,Bool.and_eq_true] at this
    exact fitsL_sms this.2.2
   ·exact rowsL_vals h r hr
  ·cases h
theorem ggF_vals (cols b:List Int):∀ r ∈ (ggF cols b).getD [],XVal.sms r.L:=by
 cases hg:ggF cols b with
 | none => intro r hr; simp at hr
 | some l =>
  unfold ggF at hg
  split at hg
  ·split at hg
   ·split at hg
    ·split at hg
     ·rename_i hh
      simp only [Option.some.injEq] at hg
      subst hg
      have h3:=hh.2
      simp only [rowsOkF,Bool.and_eq_true] at h3
      exact fun r hr => rowsL_vals h3.2.2 r (by simpa using hr)
     ·cases hg
    ·cases hg
   ·cases hg
  ·cases hg
theorem grpF_small {cols:List Int} {B:List XBuf} {r:XRef}:∀ x ∈ grpF cols B r,x.L.length≤1048576∧XVal.sms x.L:=by
 unfold grpF
 split
 ·split
  ·rename_i b _
   exact fun x hx => ⟨Nat.le_trans (ggF_rows cols b.G x hx) (by omega),ggF_vals cols b.G x hx⟩
  ·intro x hx; simp at hx
 ·intro x hx; simp at hx
theorem raL_small {cols:List Int} {B:List XBuf} {r:XRef} {j:Int} (hs:XBuf.sms B):(raL (rowAtF cols B r j)).length≤1048576∧XVal.sms (raL (rowAtF cols B r j)):=by
 have h0:(raL none).length≤1048576∧XVal.sms (raL none):=⟨by simp [raL],fun v hv => by simp [raL] at hv⟩
 unfold rowAtF
 split
 ·split
  ·rename_i b hb
   split
   ·split
    ·rename_i s hm
     exact (hs b (List.mem_of_getElem? hb)).1.2 s (List.mem_of_getElem? hm)
    ·exact h0
   ·exact h0
  ·exact h0
 ·split
  ·cases hg:(grpF cols B r)[j.toNat]? with
   | none => exact h0
   | some x => exact grpF_small x (List.mem_of_getElem? hg)
  ·exact h0

theorem t413 (aa:List Int) (an ao:Int) (ap aq:Int) (ar au:Int) (ae:List XRef) (a:List XBuf) (af:List Int) (ag:List XDead) (ah:List Int) (ac:List XTask) (ad:List XDeed) (ai aj:Int) (ak al:Int) (am aJ:Int) (ay:aa.length≤9223372036854775807) (az:ae.length≤9223372036854775807) (aA:a.length≤9223372036854775807) (aB:XBuf.oks a) (aC:af.length≤9223372036854775807) (aD:ag.length≤9223372036854775807) (aE:ah.length≤9223372036854775807) (aF:ac.length≤9223372036854775807) (aG:XTask.oks ac) (aH:ad.length≤9223372036854775807) (aI:XDeed.oks ad) (hbx:∀ b ∈ a,bytesOk b.G):Gw TT 413 [.st [.ro false (.sl 1 (aa.map ei)),.ro false (di an),.ro false (di ao),.ro false (di ap),.ro false (di aq),.ro false (di ar),.ro false (di au),.ro false (.sl 5 (ae.map XRef.e)),.ro false (.sl 5 (a.map XBuf.e)),.ro false (.sl 1 (af.map ei)),.ro false (.sl 3 (ag.map XDead.e)),.ro false (.sl 1 (ah.map ei)),.ro false (.sl 25 (ac.map XTask.e)),.ro false (.sl 25 (ad.map XDeed.e))],.st [.ro false (di ai),.ro false (di aj),.ro false (di ak),.ro false (di al),.ro false (di am)],.one (.ro false (di aJ))] = some (vb true,[]):=by
 refine Ga pf413 pb413 ?_
 unfold pb413
 obtain ⟨n1,g1,a1,b1,s1⟩:=t233 false aa an ao ap aq ar au ae a af ag ah ac ad 1048576 (by omega) (by omega) ay az aA aB aC aD aE aF aG aH aI
 refine Ud g1 ?_ ?_
 all_goals repeat intro hc
 ·simp [pf413]
 have q1:=s1 (by omega)
 obtain ⟨aw,aK,ax,av,aL,aM,aN,aO,aP,aQ,aR⟩:=q1
 obtain ⟨nb,gb,ab,bb,sb⟩:=t233b false aa an ao ap aq ar au ae a af ag ah ac ad 1048576 (by omega) (by omega) ay az aA aB aC aD aE aF aG aH aI
 have eb:n1 = nb:=by have:=g1.symm.trans gb; simpa using this
 have qb:=sb (by omega)
 have cn0:=ctInts_nn aa
 have cn1:=ctRefs_nn ae
 have cn2:=ctBufs_nn a
 have cn3:=ctInts_nn af
 have cn4:=ctDeads_nn ag
 have cn5:=ctInts_nn ah
 have cn6:=ctTasks_nn ac
 have cn7:=ctDeeds_nn ad
 have cb0:1 + ctInts aa + ctRefs ae + ctBufs a + ctInts af + ctDeads ag + ctInts ah + ctTasks ac + ctDeeds ad≤4611686018427387904:=by omega
 have hG:∀ b ∈ a,b.G.length≤1048576∧bytesOk b.G:=fun b hb => ⟨(av b hb).2,hbx b hb⟩
 have u1:=fun k:Bool => t423 k aa an ao ap aq ar au ae a af ag ah ac ad ai aj ak al am aJ ax av aw hG
 have u2:=fun k:Bool => t424 k aa an ao ap aq ar au ae a af ag ah ac ad ai aj ak al am aJ ax av aw hG
 obtain ⟨hgl,hgs⟩:=raL_small (cols:=aa) (r:=⟨ai,aj,ak,al,am⟩) (j:=aJ) av
 simp only [raV_eq] at u1 u2
 generalize raL (rowAtF aa a ⟨ai,aj,ak,al,am⟩ aJ) = gl at u1 u2 hgl hgs
 generalize raI (rowAtF aa a ⟨ai,aj,ak,al,am⟩ aJ) = gi at u1 u2
 generalize (rowAtF aa a ⟨ai,aj,ak,al,am⟩ aJ).isSome = gb2 at u1 u2
 have gn:=ctVals_nn gl
 have ge:=ctVals_le gl
 have cb1:1 + ctVals gl≤4611686018427387904:=by omega
 have cb2:¬ 1 + ctVals gl < 0:=by omega
 refine Ud (J8 aw aK ax av aL aM aN (J8 aO aP aQ aR u1 u2 hgl (J4 hgs cb0 cb1 cb2))) ?_
 repeat intro hc
 simp [pf413]

end Go.Proofs.YtcgekefbkccelaaGreat.OM
