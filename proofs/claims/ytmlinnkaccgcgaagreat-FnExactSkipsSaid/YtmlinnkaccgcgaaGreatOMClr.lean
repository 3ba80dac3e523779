/- The own machine: elements of a slice made zero. -/
import Derived.Test.YtmlinnkaccgcgaaGreatOMOp11
set_option linter.all false
namespace Go.Proofs.YtmlinnkaccgcgaaGreat.OM
theorem D.put_put : ∀ (p : Pth) (d x y : D),(d.put p x).put p y = d.put p y
 | [],d,x,y => by simp [D.put]
 | (i,j) :: p,d,x,y => by
  cases d with
  | sl sz es =>
   simp only [D.put]
   cases h : es[i]? with
   | none => simp [h,D.put]
   | some e =>
    simp only
    cases h2 : e[j]? with
    | none => simp [D.put,h,h2]
    | some d' =>
     obtain ⟨hi,_⟩:=List.getElem?_eq_some_iff.1 h
     obtain ⟨hj,_⟩:=List.getElem?_eq_some_iff.1 h2
     simp [D.put,hi,hj,D.put_put p d' x y]
  | _ => simp [D.put]
theorem D.dig_put : ∀ (p : Pth) (d x y : D),d.dig p = some y → (d.put p x).dig p = some x
 | [],d,x,y,_ => by simp [D.put,D.dig]
 | (i,j) :: p,d,x,y,h => by
  cases d with
  | sl sz es =>
   simp only [D.dig] at h
   split at h
   ·rename_i e he
    split at h
    ·rename_i d' hd
     obtain ⟨hi,_⟩:=List.getElem?_eq_some_iff.1 he
     obtain ⟨hj,_⟩:=List.getElem?_eq_some_iff.1 hd
     simp only [D.put]
     rw [he]
     simp only
     rw [hd]
     simp only [D.dig]
     rw [List.getElem?_set_self hi]
     simp only
     rw [List.getElem?_set_self hj]
     exact D.dig_put p d' x y h
    ·cases h
   ·cases h
  | _ => simp [D.dig] at h
section
variable {P : Program} {κ : Nat → FuncId} {w0 : World} {cl0 : Ini} {S : St} {w : World} {g : Gh} {a : Act} {Γ : Env} {d : Nat}
theorem putAt_at {m m' : Ms} {r j : Nat} {p : Pth} {x y : D} (ha : m.at r j p = some y) (h : m.putAt r j p x [] = some m') : m'.at r j p = some x:=by
 obtain ⟨hnk,rt,d0,h1,h2,h3⟩:=at_some ha
 obtain ⟨rt',d0',k1,k2,rfl⟩:=putAt_some h
 rw [h1] at k1; cases k1
 rw [h2] at k2; cases k2
 have hc : (rt.setc j (.own (d0.put p x))).cells[j]? = some (.own (d0.put p x)):=by
  obtain ⟨hj,_⟩:=List.getElem?_eq_some_iff.1 h2
  cases rt <;> simp [Rt.setc,Rt.cells] at hj ⊢ <;> simp [hj]
 have hk : Ms.killed (upd m r (some (rt.setc j (.own (d0.put p x))),[] ++ (m r).2)) r j p = false:=by
  simp only [Ms.killed,upd_same,List.nil_append]; exact hnk
 simp only [Ms.at,hk]
 simp only [Ms.cell,upd_same,hc]
 exact D.dig_put p d0 x y h3
theorem putAt_put {m m1 : Ms} {r j : Nat} {p : Pth} {x y : D} (h : m.putAt r j p x [] = some m1) : m1.putAt r j p y [] = m.putAt r j p y []:=by
 obtain ⟨rt,d0,k1,k2,rfl⟩:=putAt_some h
 have hc : (rt.setc j (.own (d0.put p x))).cells[j]? = some (.own (d0.put p x)):=by
  obtain ⟨hj,_⟩:=List.getElem?_eq_some_iff.1 k2
  cases rt <;> simp [Rt.setc,Rt.cells] at hj ⊢ <;> simp [hj]
 simp only [Ms.putAt,upd_same,hc,k1,k2]
 simp only [D.put_put]
 have e : (rt.setc j (.own (d0.put p x))).setc j (.own (d0.put p y)) = rt.setc j (.own (d0.put p y)):=by
  cases rt <;> simp [Rt.setc]
 rw [e]
 congr 1
 funext k
 simp only [upd]
 split <;> simp
theorem putAt_ex {m : Ms} {r j : Nat} {p : Pth} {y : D} (x : D) (ha : m.at r j p = some y) : ∃ m',m.putAt r j p x [] = some m':=by
 obtain ⟨hnk,rt,d0,h1,h2,h3⟩:=at_some ha
 exact ⟨_,by simp only [Ms.putAt,h1,h2]; rfl⟩
theorem storeCells_shift : ∀ (ys : List Value) (b o i k : Nat),storeCells ⟨b,o,none⟩ ys (i + k) = storeCells ⟨b,o + i,none⟩ ys k
 | [],_,_,_,_ => rfl
 | y :: ys,b,o,i,k => by
  simp only [storeCells]
  rw [Nat.add_assoc i k 1,storeCells_shift ys b o i (k + 1)]
  simp only [Addr.add_lit,Nat.add_assoc]
theorem storeCells_cat : ∀ (xs ys : List Value) (b o i : Nat) {w w1 w2 : World},(storeCells ⟨b,o,none⟩ xs i).run P w = .ok () w1 → (storeCells ⟨b,o + i + xs.length,none⟩ ys 0).run P w1 = .ok () w2 →
  (storeCells ⟨b,o,none⟩ (xs ++ ys) i).run P w = .ok () w2
 | [],ys,b,o,i,w,w1,w2,h1,h2 => by
  simp only [storeCells,Sem.run_pure,Result.ok.injEq,true_and] at h1
  subst h1
  have:=storeCells_shift ys b o i 0
  rw [Nat.add_zero] at this
  simp only [List.nil_append]
  rw [this]
  simpa using h2
 | x :: xs,ys,b,o,i,w,w1,w2,h1,h2 => by
  simp only [storeCells,List.cons_append,Sem.run_bind] at h1 ⊢
  cases hs : (store (Addr.add ⟨b,o,none⟩ i) x).run P w with
  | ok u wa =>
   rw [hs] at h1
   simp only [Result.andThen_ok] at h1 ⊢
   refine storeCells_cat xs ys b o (i + 1) h1 ?_
   rw [show o + (i + 1) + xs.length = o + i + (x :: xs).length by simp; omega]
   exact h2
  | _ => rw [hs] at h1; simp [Result.andThen] at h1
theorem killsD_flat : ∀ (os ns : List D) (j : Nat) (p : Pth) (i c : Nat),os.all D.scal = true → ns.all D.scal = true → killsD j p i c os ns = []
 | [],_,_,_,_,_,_,_ => by simp [killsD]
 | _ :: _,[],_,_,_,_,_,_ => by simp [killsD]
 | o :: os,n :: ns,j,p,i,c,h1,h2 => by
  simp only [List.all_cons,Bool.and_eq_true] at h1 h2
  simp only [killsD,h1.1,h2.1,Bool.and_self,if_true]
  exact killsD_flat os ns j p i (c + 1) h1.2 h2.2
theorem clr_set {es : List (List D)} {z : List D} {lo k : Nat} (h : lo + k < es.length) :
  (es.take lo ++ List.replicate k z ++ es.drop (lo + k)).set (lo + k) z = es.take lo ++ List.replicate (k + 1) z ++ es.drop (lo + (k + 1)):=by
 apply List.ext_getElem?
 intro n
 have hl : (es.take lo).length = lo:=by simp; omega
 simp only [List.getElem?_set,List.getElem?_append,List.getElem?_replicate,List.getElem?_drop,List.length_append,List.length_replicate,List.length_drop,hl]
 repeat' split
 all_goals first | rfl | (exfalso; omega) | (congr 1; omega)
theorem clr_loop {r j sz lo hi : Nat} {p : Pth} {z : List D} {zv : List Value} {es : List (List D)} {B O N C : Nat} (hz : z.all D.scal = true) (hzl : z.length = sz) (hzv : zv.length = sz)
  (hone : ∀ x ∈ zv,x.oneCell' = true) (hzd : ∀ {w : World} {g : Gh} (q : Nat) (d : D) (x : Value),z[q]? = some d → zv[q]? = some x → Hd w g q d x) (hhi : hi ≤ es.length) (hfl : flatD ((es.take hi).drop lo) = true)
  (hra : ∀ {m : Ms} {w : World} {g : Gh},Rel w0 cl0 { S with ms:=m } a.tmps w g → RA w g m (.rg r j p sz lo hi) (.slice (some ⟨B,O,none⟩) N C)) :
  ∀ (n k : Nat) {m m' : Ms} {w : World} {g : Gh},lo + k + (n + 1) = hi → Rel w0 cl0 { S with ms:=m } a.tmps w g → m.at r j p = some (.sl sz (es.take lo ++ List.replicate k z ++ es.drop (lo + k))) →
   m.putAt r j p (.sl sz (es.take lo ++ List.replicate (hi - lo) z ++ es.drop hi)) [] = some m' →
   ∃ w' g',(storeCells ⟨B,O + k * sz,none⟩ (rep (n + 1) zv) 0).run P w = .ok () w' ∧ Rel w0 cl0 { S with ms:=m' } a.tmps w' g':=by
 have step : ∀ (k : Nat) {m m1 : Ms} {w : World} {g : Gh},lo + k < hi → Rel w0 cl0 { S with ms:=m } a.tmps w g → m.at r j p = some (.sl sz (es.take lo ++ List.replicate k z ++ es.drop (lo + k))) →
   m.putAt r j p (.sl sz (es.take lo ++ List.replicate (k + 1) z ++ es.drop (lo + (k + 1)))) [] = some m1 →
   ∃ w' g',(storeCells ⟨B,O + k * sz,none⟩ zv 0).run P w = .ok () w' ∧ Rel w0 cl0 { S with ms:=m1 } a.tmps w' g':=by
  intro k m m1 w g hk R hat hput
  have hl : (es.take lo).length = lo:=by simp; omega
  obtain ⟨e,he⟩ : ∃ e,es[lo + k]? = some e:=⟨_,List.getElem?_eq_getElem (by omega)⟩
  have hee : (es.take lo ++ List.replicate k z ++ es.drop (lo + k))[lo + k]? = some e:=by
   rw [List.getElem?_append_right (by simp; omega)]
   simp only [List.length_append,List.length_replicate,hl,List.getElem?_drop,Nat.sub_self,Nat.add_zero]
   exact he
  have hes : e.all D.scal = true:=by
   refine List.all_eq_true.1 hfl e (List.mem_iff_getElem?.2 ⟨k,?_⟩)
   rw [List.getElem?_drop,List.getElem?_take,if_pos hk]; exact he
  have hlE : es.length ≤ (es.take lo ++ List.replicate k z ++ es.drop (lo + k)).length:=by simp; omega
  generalize hE : (es.take lo ++ List.replicate k z ++ es.drop (lo + k)) = es2 at hat hee hlE
  obtain ⟨x0,ho⟩:=R.at hat
  have hx0:=ho.hd_eq
  have hnk : m.killed r j p = false:=(at_some hat).1
  have hR:=hra R
  cases hR with
  | rg _ _ _ _ _ _ _ _ _ hh =>
   have hv:=hh hnk
   rw [← hx0] at hv
   cases ho with
   | nil _ _ h1 =>
    have hlE2 : es.length ≤ 0:=hlE
    omega
   | sl _ _ _ b off cap vals E hhd hcl hlen hcap hw hN hkids =>
    have hcl2 : ¬ cap = lo:=by omega
    simp only [slcv,if_neg hcl2,Option.map_some,Addr.add_lit,Value.slice.injEq,Option.some.injEq,Addr.mk.injEq,and_true] at hv
    obtain ⟨⟨rfl,rfl⟩,_,_⟩:=hv
    have hel : e.length = sz:=hlen e (List.mem_of_getElem? hee)
    refine storeOwn (P:=P) (a:=a) R (r:=r) (j:=j) (sz:=sz) (i:=lo + k) (c:=0) (p:=p) (es:=es2) (e:=e) (ds:=z) (vals:=zv) ?_ hat hee (by omega) ?_ (by omega) hone (fun q d x h1 h2 => hzd q d x h1 h2)
    ·rw [← hx0]
     simp only [adv,Nat.add_zero,Nat.add_mul,Nat.add_assoc]
    ·have hset : setRange e 0 z = z:=by simp [setRange]; omega
     rw [hset,← hE,clr_set (by omega),killsD_flat _ _ _ _ _ _ (by simpa using hes) hz]
     exact hput
 intro n
 induction n with
 | zero =>
  intro k m m' w g hk R hat hput
  have e1 : hi - lo = k + 1:=by omega
  have e2 : hi = lo + (k + 1):=by omega
  rw [e1] at hput
  rw [e2] at hput
  obtain ⟨w',g',h1,h2⟩:=step k (by omega) R hat (by simpa using hput)
  exact ⟨w',g',by simpa [rep] using h1,h2⟩
 | succ n ih =>
  intro k m m' w g hk R hat hput
  obtain ⟨m1,hm1⟩:=putAt_ex (.sl sz (es.take lo ++ List.replicate (k + 1) z ++ es.drop (lo + (k + 1)))) hat
  obtain ⟨w1,g1,h1,R1⟩:=step k (by omega) R hat hm1
  obtain ⟨w2,g2,h2,R2⟩:=ih (k + 1) (by omega) R1 (putAt_at hat hm1) (by rw [putAt_put hm1]; exact hput)
  refine ⟨w2,g2,?_,R2⟩
  have e : rep (n + 1 + 1) zv = zv ++ rep (n + 1) zv:=by simp [rep,List.replicate_succ]
  rw [e]
  refine storeCells_cat zv _ B _ 0 h1 ?_
  rw [show O + k * sz + 0 + zv.length = O + (k + 1) * sz by rw [hzv,Nat.succ_mul]; omega]
  exact h2
theorem zeroCells_rep (z : Array Value) (n : Nat) : (Builtin.zeroCells z n).toList = rep n z.toList:=by
 by_cases hz : z.size = 0
 ·have : z = #[]:=Array.eq_empty_of_size_eq_zero hz
  subst this
  simp [Builtin.zeroCells,rep]
 apply List.ext_getElem?
 intro k
 have hlen : (rep n z.toList).length = n * z.size:=by simp [rep]
 by_cases hk : k < n * z.size
 ·rw [rep_get z.toList n k (by simpa using hk)]
  have hm : k % z.size < z.size:=Nat.mod_lt _ (by omega)
  simp [Builtin.zeroCells,hk,hm]
 ·rw [List.getElem?_eq_none (by simp [Builtin.zeroCells]; omega),List.getElem?_eq_none (by rw [hlen]; omega)]
theorem ok_clr (R : Rel w0 cl0 S a.tmps w g) {sz : Nat} {z : List D} {x : PX} {op : Op} {av : AV} {rt : Option Rt} {m' : Ms}
  (hc : chkOp P κ (.clr sz z x) op = true) (h : opf Γ S.ev d S.ms (.clr sz z x) = some (av,rt,m')) (o : Oper) (ho : o.op = op) :
  ∃ v w',(execOp a.eval o).run P w = .ok (.value v) w' ∧ Post w0 cl0 S a.tmps d av rt m' v w':=by
 cases op with
 | call c => ?_
 | _ => simp [chkOp] at hc
 simp only [chkOp] at hc
 split at hc
 ·rename_i oa t hcal hargs htys
  simp only [Bool.and_eq_true] at hc
  obtain ⟨h1,h3⟩:=hc
  split at h3
  ·rename_i e he
   split at h3
   ·rename_i zl s1 by' hzl hsb
    simp only [Bool.and_eq_true,beq_iff_eq] at h3
    obtain ⟨rfl,hchk⟩:=h3
    obtain ⟨i,zv,hi,hzv,hzc,hzs⟩:=zeroT_some hzl
    have hu1 : P.underlying t = some (.slice e):=by unfold elemT at he; split at he <;> simp_all
    unfold sizeT at hsb
    rw [hi] at hsb
    simp at hsb
    obtain ⟨hl,hg⟩:=chkDs_get z zl hchk
    simp only [opf] at h
    split at h
    ·rename_i r j p sz0 lo hi' hx
     split at h
     ·rename_i sz1 es hat
      split at h
      ·rename_i hcond
       obtain ⟨rfl,rfl,hlt,hhi,hzl2,hzs2,hfl⟩:=hcond
       split at h
       ·rename_i m2 hput
        simp at h; obtain ⟨rfl,rfl,rfl⟩:=h
        have e1:=(chkX_ok R h1).1
        rw [hx] at e1
        generalize hvv : a.eval oa = vv at e1
        have hra0 : ∀ {m : Ms} {w : World} {g : Gh},Rel w0 cl0 { S with ms:=m } a.tmps w g → RA w g m (.rg r j p sz0 lo hi') vv:=fun R2 => by
         have:=(chkX_ok R2 h1).1
         rw [hvv] at this
         have hev : ∀ m,({ S with ms:=m } : St).ev x = S.ev x:=fun m => by cases x <;> rfl
         rw [hev,hx] at this
         exact this
        obtain ⟨x0,how⟩:=R.at hat
        have hx0:=how.hd_eq
        have hnk : S.ms.killed r j p = false:=(at_some hat).1
        cases e1 with
        | rg _ _ _ _ _ _ bb nn cc hh =>
         have hv:=hh hnk
         rw [← hx0] at hv
         cases how with
         | nil _ _ hnl => simp at hhi; omega
         | sl _ _ _ b off cap vals E hhd hcl hlen hcap hw hN hkids =>
          have hcl2 : ¬ cap = lo:=by omega
          simp only [slcv,if_neg hcl2,Option.map_some,Addr.add_lit,Value.slice.injEq] at hv
          obtain ⟨rfl,rfl,rfl⟩:=hv
          obtain ⟨w',g',hrun,R2⟩:=clr_loop (P:=P) (a:=a) (S:=S) (zv:=zl) (es:=es) (lo:=lo) (hi:=hi') hzs2 hzl2 (by omega) (fun x hx => by
           obtain ⟨q,hq⟩:=List.mem_iff_getElem?.1 hx
           have hlq:=lt_of_get hq
           obtain ⟨dd,hdd⟩ : ∃ dd,z[q]? = some dd:=⟨_,List.getElem?_eq_getElem (by omega)⟩
           have hhd1:=chkD_hd (w:=w) (g:=g) (q:=q) (hg q dd x hdd hq)
           exact hhd1.one (fun e => by subst e; have:=List.all_eq_true.1 hzs2 _ (List.mem_of_getElem? hdd); simp [D.scal] at this))
           (fun {w g} q dd x hdd hq => chkD_hd (hg q dd x hdd hq)) hhi hfl hra0 (hi' - lo - 1) 0 (m:=S.ms) (m':=m2) (by omega) R (by simpa using hat) hput
          refine ⟨.tuple #[],w',?_,⟨g',R2,.tup _ _ rfl (fun i a x hi => by simp at hi),fun r hr => by simp [AV.refs,AV.refsL] at hr⟩⟩
          obtain ⟨cs,hex⟩:=call_builtin (a:=a) hcal hargs htys ho
          have hn1 : hi' - lo - 1 + 1 = hi' - lo:=by omega
          rw [hn1] at hrun
          rw [hex]
          obtain ⟨n',hn'⟩ : ∃ n',hi' - lo = n' + 1:=⟨hi' - lo - 1,by omega⟩
          have hzc2 : (Builtin.zeroCells zv.cells (n' + 1)).toList = rep (n' + 1) zl:=by rw [zeroCells_rep,hzc]
          simp only [List.map_cons,List.map_nil,hvv]
          rw [hn']
          rw [hn'] at hrun
          simp only [Nat.zero_mul,Nat.add_zero] at hrun
          simp [builtin,Builtin.clear_,run_underlying hu1,zeroValue,typeInfo,hi,hzv,hzc2,hrun]
       ·cases h
      ·cases h
     ·cases h
    ·cases h
   ·cases h3
  ·cases h3
 ·cases hc
end
end Go.Proofs.YtmlinnkaccgcgaaGreat.OM
