/- What the functions answer. -/
import Derived.Test.YtmlinnkaccgcgaaGreatXSkipsLm0
set_option linter.all false
namespace Go.Proofs.YtmlinnkaccgcgaaGreat.OM
set_option maxHeartbeats 4000000
set_option maxRecDepth 100000

theorem decP_len {b : List Int} {ty k : Int} {l : List XVal} (hb : bytesOk b) (h : decP b ty k = some l) : (l.length : Int) = k:=by
 unfold decP at h
 split at h
 ·rename_i hk
  split at h
  ·rename_i l' t hg
   split at h
   ·simp at h; subst h
    exact (decP_enc hb hk hg).1
   ·cases h
  ·cases h
 ·cases h
theorem decR_len {b : List Int} {ty k : Int} {l : List XVal} (h : decR b ty k = some l) : (l.length : Int) = k:=by
 unfold decR at h
 split at h
 ·split at h
  ·split at h
   ·obtain ⟨rfl,_,h1,_⟩:=chkE_some h; exact h1
   ·cases h
  ·cases h
 ·cases h
theorem decD_len {b : List Int} {ty k : Int} {l : List XVal} (h : decD b ty k = some l) : (l.length : Int) = k:=by
 unfold decD decDn at h
 split at h
 ·split at h
  ·split at h
   ·split at h
    ·split at h
     ·obtain ⟨rfl,_,h1,_⟩:=chkE_some h; exact h1
     ·cases h
    ·cases h
   ·cases h
  ·cases h
 ·cases h
theorem decF_len {b : List Int} {k : Int} {l : List XVal} (h : decF b k = some l) : (l.length : Int) = k:=by
 unfold decF at h
 split at h
 ·split at h
  ·split at h
   ·split at h
    ·obtain ⟨rfl,_,h1,_⟩:=chkE_some h; exact h1
    ·cases h
   ·cases h
  ·cases h
 ·cases h
theorem decBy_len {kind : Int} {b : List Int} {ty k : Int} {l : List XVal} (hb : bytesOk b) (h : decBy kind b ty k = some l) : (l.length : Int) = k:=by
 unfold decBy at h
 split at h; exact decP_len hb h
 split at h; exact decR_len h
 split at h; exact decD_len h
 split at h; exact decF_len h
 cases h
theorem decC_some {b : List Int} {ty k : Int} {l : List XVal} (hb : bytesOk b) (h : decC b ty k = some l) : (l.length : Int) = k ∧ typF l = ty ∧ b = encC l:=by
 unfold decC at h
 split at h
 ·cases h
 ·rename_i c r
  split at h
  ·rename_i l' hl
   split at h
   ·rename_i hh
    simp at h; subst h
    exact ⟨decBy_len (fun x hx => hb x (by simp [hx])) hl,hh⟩
   ·cases h
  ·cases h

@[simp] theorem t526 (k0 : Bool) (l : List XVal) (h : l.length ≤ 1048576) (hs : XVal.sms l) : Gw TT 526 [.one (.ro k0 (.sl 3 (l.map XVal.e)))] = some (vi (typF l),[]):=by
 refine Ga pf526 pb526 ?_
 unfold pb526
 by_cases q : 1 ≤ l.length ∧ l.length ≤ 64
 ·have q1 : (1 : Int) ≤ (l.length : Int):=by omega
  have q2 : (l.length : Int) ≤ 64:=by omega
  obtain ⟨v0,hv0⟩ : ∃ v,l[0]? = some v:=⟨_,List.getElem?_eq_getElem (by omega)⟩
  obtain ⟨hl0,he0⟩:=List.getElem?_eq_some_iff.1 hv0
  have hty : typF l = if typA v0.Ty l = true then v0.Ty else 0:=by
   cases l with
   | nil => simp at hl0
   | cons x r =>
    simp at hv0; subst hv0
    simp only [typF]
    have : r.length < 64:=by simp at q; omega
    simp [this]
  refine Uw (J5 q1 q2 hl0 hv0 he0) ?_
  refine wp_loopI (σ:=List XVal × List XVal) (fun s => [(0,AV.v k0 (D.sl 3 (l.map XVal.e)),none),(9,AV.v k0 (D.sl 3 (l.map XVal.e)),none),(10,AV.v false (di (l.length : Nat)),none),(11,AV.v false (di ((s.1.length : Nat) : Int)),none)]) (fun s => l = s.1 ++ s.2 ∧ typA v0.Ty s.2 = typA v0.Ty l) (fun s => s.2.length) ([],l) (by simp) ⟨rfl,rfl⟩ ?_
  rintro ⟨pre,rest⟩ ⟨y1,y2⟩
  simp only at y1 y2
  have y3 : l.length = pre.length + rest.length:=by rw [y1,List.length_append]
  rcases rest with _ | ⟨d,rest⟩
  ·simp only [List.length_nil] at y3
   simp only [typA] at y2
   rw [← y2,if_pos rfl] at hty
   have c1 : ¬ (pre.length : Int) < (l.length : Int):=by omega
   unfold pl526_0
   refine Uw (J5 c1 hl0 hv0 he0 hty) ?_
   simp [pf526,hty]
  ·simp only [List.length_cons] at y3
   have hd:=hs d (by rw [y1]; simp)
   simp only [XVal.sm] at hd
   simp only [typA] at y2
   have hg : l[pre.length]? = some d:=by rw [y1]; simp
   obtain ⟨hlt,he⟩:=List.getElem?_eq_some_iff.1 hg
   have c1 : (pre.length : Int) < (l.length : Int):=by omega
   have hw:=Wi ((pre.length : Int) + 1)
   unfold pl526_0
   by_cases o1 : valOkF d.Ty d.N d.S = true
   ·by_cases o2 : d.Ty = v0.Ty
    ·rw [if_pos ⟨o1,o2⟩] at y2
     have o3 : valOkF v0.Ty d.N d.S = true:=o2 ▸ o1
     refine Uw (J8 hg he hlt c1 hw hd o1 (J5 o2 o3 hl0 hv0 he0)) ?_
     exact ⟨(pre ++ [d],rest),by simp,⟨by rw [y1]; simp,y2⟩,by simp⟩
    ·rw [if_neg (fun q => o2 q.2)] at y2
     rw [← y2,if_neg (by simp)] at hty
     have o4 : (d.Ty == v0.Ty) = false:=by simpa using o2
     have o5 : (d.Ty != v0.Ty) = true:=by simpa using o2
     refine Uw (J8 hg he hlt c1 hw hd o1 (J6 o4 o5 hl0 hv0 he0 hty)) ?_
     simp [pf526,hty]
   ·rw [if_neg (fun q => o1 q.1)] at y2
    rw [← y2,if_neg (by simp)] at hty
    have o3 : valOkF d.Ty d.N d.S = false:=by simpa using o1
    refine Uw (J8 hg he hlt c1 hw hd o3 (J4 hl0 hv0 he0 hty)) ?_
    simp [pf526,hty]
 ·have hty : typF l = 0:=by
   cases l with
   | nil => rfl
   | cons x r =>
    simp only [typF]
    rw [if_neg (fun e => q ⟨by simp,by simp; omega⟩)]
  refine Uw hty ?_
  repeat intro hc
  simp [pf526,hty]

@[simp] theorem t518 (k0 : Bool) (l : List XVal) (h : l.length ≤ 1048576) (hs : XVal.sms l) : Gw TT 518 [.one (.ro k0 (.sl 3 (l.map XVal.e)))] = some (vi (typF l),[]):=by
 refine Ga pf518 pb518 ?_
 unfold pb518
 by_cases q : 1 ≤ l.length ∧ l.length ≤ 64
 ·have q1 : (1 : Int) ≤ (l.length : Int):=by omega
  have q2 : (l.length : Int) ≤ 64:=by omega
  obtain ⟨v0,hv0⟩ : ∃ v,l[0]? = some v:=⟨_,List.getElem?_eq_getElem (by omega)⟩
  obtain ⟨hl0,he0⟩:=List.getElem?_eq_some_iff.1 hv0
  have hty : typF l = if typA v0.Ty l = true then v0.Ty else 0:=by
   cases l with
   | nil => simp at hl0
   | cons x r =>
    simp at hv0; subst hv0
    simp only [typF]
    have : r.length < 64:=by simp at q; omega
    simp [this]
  refine Uw (J5 q1 q2 hl0 hv0 he0) ?_
  refine wp_loopI (σ:=List XVal × List XVal) (fun s => [(0,AV.v k0 (D.sl 3 (l.map XVal.e)),none),(3,AV.v false (di ((s.1.length : Nat) : Int)),none)]) (fun s => l = s.1 ++ s.2 ∧ typA v0.Ty s.2 = typA v0.Ty l) (fun s => s.2.length) ([],l) (by simp) ⟨rfl,rfl⟩ ?_
  rintro ⟨pre,rest⟩ ⟨y1,y2⟩
  simp only at y1 y2
  have y3 : l.length = pre.length + rest.length:=by rw [y1,List.length_append]
  rcases rest with _ | ⟨d,rest⟩
  ·simp only [List.length_nil] at y3
   simp only [typA] at y2
   rw [← y2,if_pos rfl] at hty
   have c1 : ¬ (pre.length : Int) < (l.length : Int):=by omega
   unfold pl518_0
   refine Uw (J5 c1 hl0 hv0 he0 hty) ?_
   simp [pf518,hty]
  ·simp only [List.length_cons] at y3
   have hd:=hs d (by rw [y1]; simp)
   simp only [XVal.sm] at hd
   simp only [typA] at y2
   have hg : l[pre.length]? = some d:=by rw [y1]; simp
   obtain ⟨hlt,he⟩:=List.getElem?_eq_some_iff.1 hg
   have c1 : (pre.length : Int) < (l.length : Int):=by omega
   have hw:=Wi ((pre.length : Int) + 1)
   unfold pl518_0
   by_cases o1 : valOkF d.Ty d.N d.S = true
   ·by_cases o2 : d.Ty = v0.Ty
    ·rw [if_pos ⟨o1,o2⟩] at y2
     have o3 : valOkF v0.Ty d.N d.S = true:=o2 ▸ o1
     refine Uw (J8 hg he hlt c1 hw hd o1 (J5 o2 o3 hl0 hv0 he0)) ?_
     exact ⟨(pre ++ [d],rest),by simp,⟨by rw [y1]; simp,y2⟩,by simp⟩
    ·rw [if_neg (fun q => o2 q.2)] at y2
     rw [← y2,if_neg (by simp)] at hty
     have o4 : (d.Ty == v0.Ty) = false:=by simpa using o2
     have o5 : (d.Ty != v0.Ty) = true:=by simpa using o2
     refine Uw (J8 hg he hlt c1 hw hd o1 (J6 o4 o5 hl0 hv0 he0 hty)) ?_
     simp [pf518,hty]
   ·rw [if_neg (fun q => o1 q.1)] at y2
    rw [← y2,if_neg (by simp)] at hty
    have o3 : valOkF d.Ty d.N d.S = false:=by simpa using o1
    refine Uw (J8 hg he hlt c1 hw hd o3 (J4 hl0 hv0 he0 hty)) ?_
    simp [pf518,hty]
 ·have hty : typF l = 0:=by
   cases l with
   | nil => rfl
   | cons x r =>
    simp only [typF]
    rw [if_neg (fun e => q ⟨by simp,by simp; omega⟩)]
  refine Uw hty ?_
  repeat intro hc
  simp [pf518,hty]

@[simp] theorem t579 (k0 : Bool) (b : List Int) (x_Ty x_N : Int) (x_S : ByteArray) (h : b.length ≤ 1048000) (hs : x_S.size ≤ 1048576) : Gw TT 579 [.one (.ro k0 (.sl 1 (b.map eb))),.st [.ro false (di x_Ty),.ro false (di x_N),.ro false (.str x_S)]] = some (.one (.own (.sl 1 ((b ++ putV ⟨x_Ty,x_N,x_S⟩).map eb))),[]):=by
 refine Ga pf579 pb579 ?_
 unfold pb579
 have hq0 : (0 + b.length) * 1 ≤ 70368744177664:=by omega
 have hq1 : b.length ≤ 70368744177664:=by omega
 have hq2 : b.length ≤ 1048576:=by omega
 cases hv : valOkF x_Ty x_N x_S with
 | false =>
  have hp : putV ⟨x_Ty,x_N,x_S⟩ = []:=by simp [putV,hv]
  refine Uw (J6 h hs hv hq0 hq1 hq2) ?_
  simp [pf579,hp]
 | true =>
  have hl:=valOkF_len hv
  by_cases u : x_Ty = 1
  ·subst u
   have hp : putV ⟨1,x_N,x_S⟩ = encN x_N:=by simp [putV,hv]
   refine Uw (J6 h hs hv hq0 hq1 hq2) ?_
   simp [pf579,hp]
  ·have hp : putV ⟨x_Ty,x_N,x_S⟩ = (x_S.size : Int) :: bsI x_S:=by simp [putV,hv,u]
   have hu : IntKind.wrap .u8 (x_S.size : Int) = (x_S.size : Int):=wrap_u8 (by omega) (by omega)
   have hr1 : (b.length + 1) * 1 ≤ 70368744177664:=by omega
   have hr2 : b.length + 1 ≤ 70368744177664:=by omega
   have hr3 : b.length + 1 + x_S.size ≤ 70368744177664:=by omega
   refine Uw (J8 h hs hv hq0 hq1 hq2 u (J4 hu hr1 hr2 hr3)) ?_
   repeat intro hc
   simp [pf579,hp,bsI]

@[simp] theorem t569 (k0 : Bool) (b : List Int) (x_Ty x_N : Int) (x_S : ByteArray) (h : b.length ≤ 1048000) (hs : x_S.size ≤ 1048576) : Gw TT 569 [.one (.ro k0 (.sl 1 (b.map eb))),.st [.ro false (di x_Ty),.ro false (di x_N),.ro false (.str x_S)]] = some (.one (.own (.sl 1 ((b ++ putV ⟨x_Ty,x_N,x_S⟩).map eb))),[]):=by
 refine Ga pf569 pb569 ?_
 unfold pb569
 have hq0 : (0 + b.length) * 1 ≤ 70368744177664:=by omega
 have hq1 : b.length ≤ 70368744177664:=by omega
 have hq2 : b.length ≤ 1048576:=by omega
 cases hv : valOkF x_Ty x_N x_S with
 | false =>
  have hp : putV ⟨x_Ty,x_N,x_S⟩ = []:=by simp [putV,hv]
  refine Uw (J6 h hs hv hq0 hq1 hq2) ?_
  simp [pf569,hp]
 | true =>
  have hl:=valOkF_len hv
  by_cases u : x_Ty = 1
  ·subst u
   have hp : putV ⟨1,x_N,x_S⟩ = encN x_N:=by simp [putV,hv]
   refine Uw (J6 h hs hv hq0 hq1 hq2) ?_
   simp [pf569,hp]
  ·have hp : putV ⟨x_Ty,x_N,x_S⟩ = (x_S.size : Int) :: bsI x_S:=by simp [putV,hv,u]
   have hu : IntKind.wrap .u8 (x_S.size : Int) = (x_S.size : Int):=wrap_u8 (by omega) (by omega)
   have hr1 : (b.length + 1) * 1 ≤ 70368744177664:=by omega
   have hr2 : b.length + 1 ≤ 70368744177664:=by omega
   have hr3 : b.length + 1 + x_S.size ≤ 70368744177664:=by omega
   refine Uw (J8 h hs hv hq0 hq1 hq2 u (J4 hu hr1 hr2 hr3)) ?_
   repeat intro hc
   simp [pf569,hp,bsI]

def gvV (r : Option (XVal × Int)) : V:=match r with
 | some (v,t) => .tup [.st [.ro false (di v.Ty),.ro false (di v.N),.ro false (.str v.S)],vi t,vb true]
 | none => .tup [.st [.ro false (di 0),.ro false (di 0),.ro false (.str ⟨#[]⟩)],vi 0,vb false]
@[simp] theorem gvV_some (v : XVal) (t : Int) : gvV (some (v,t)) = .tup [.st [.ro false (di v.Ty),.ro false (di v.N),.ro false (.str v.S)],vi t,vb true]:=rfl
@[simp] theorem gvV_none : gvV none = .tup [.st [.ro false (di 0),.ro false (di 0),.ro false (.str ⟨#[]⟩)],vi 0,vb false]:=rfl

@[simp] theorem t551 (k0 : Bool) (b : List Int) (u ty : Int) (h : b.length ≤ 1048576) (hb : bytesOk b) : Gw TT 551 [.one (.ro k0 (.sl 1 (b.map eb))),vi u,vi ty] = some (gvV (getV b u ty),[]):=by
 refine Ga pf551 pb551 ?_
 unfold pb551
 have hz : (⟨#[]⟩ : ByteArray).size ≤ 1048576:=by decide
 by_cases q1 : ty = 1
 ·subst q1
  cases hg : gN b u with
  | none =>
   have hr : getV b u 1 = none:=by simp [getV,hg]
   refine Ud (J4 h hb hg hr) ?_
   simp [pf551,hr]
  | some q =>
   obtain ⟨n,t⟩:=q
   have hr : getV b u 1 = some (⟨1,n,⟨#[]⟩⟩,t):=by simp [getV,hg]
   obtain ⟨c1,c2,c3,_⟩:=gN_can hb hg
   have hv:=valOkF_int c1
   have ht : ¬ t = 0:=by omega
   refine Ud (J7 h hb hg hr hz hv ht) ?_
   repeat intro hc
   simp [pf551,hr]
 ·by_cases q2 : ty = 2
  ·subst q2
   by_cases q3 : 0 ≤ u ∧ u < (b.length : Int)
   ·obtain ⟨m,rfl⟩:=Int.eq_ofNat_of_zero_le q3.1
    have hm : m < b.length:=by omega
    obtain ⟨c,hc⟩ : ∃ c,b[m]? = some c:=⟨_,List.getElem?_eq_getElem hm⟩
    have hce : b[m] = c:=(List.getElem?_eq_some_iff.1 hc).2
    have hc0:=hb c (List.mem_of_getElem? hc)
    obtain ⟨kn,rfl⟩:=Int.eq_ofNat_of_zero_le hc0.1
    have w1:=Wi ((m : Int) + 1)
    have w2 : IntKind.wrap .i64 (kn : Int) = (kn : Int):=wrap_i64 (by omega) (by omega)
    have w3:=Wi ((m : Int) + 1 + (kn : Int))
    have w4:=Wi ((b.length : Int) - (m : Int))
    have w5:=Wi ((b.length : Int) - (m : Int) - 1)
    have w6:=Wi ((b.length : Int) - 1)
    have p1 : (m : Int) < (b.length : Int):=by omega
    have p2 : (m : Int) ≤ (b.length : Int) - 1:=by omega
    have p3 : (0 : Int) ≤ (m : Int) + 1:=by omega
    have p4 : (0 : Int) ≤ (m : Int) + 1 + (kn : Int):=by omega
    have p5 : ((m : Int) + 1).toNat = m + 1:=by omega
    have p6 : ((m : Int) + 1 + (kn : Int)).toNat = m + 1 + kn:=by omega
    have p7 : m + 1 ≤ m + 1 + kn:=by omega
    have p13 : (m : Int) + 1 ≤ (m : Int) + 1 + (kn : Int):=by omega
    by_cases q4 : m + 1 + kn ≤ b.length
    ·obtain ⟨S,hS⟩ : ∃ S,S = strOf ((b.take (m + 1 + kn)).drop (m + 1)):=⟨_,rfl⟩
     obtain ⟨L,hL⟩ : ∃ L,L = ((b.take (m + 1 + kn)).drop (m + 1)).map (fun n => UInt8.ofNat n.toNat):=⟨_,rfl⟩
     have hbs : bytesStr (List.drop (m + 1) (List.take (m + 1 + kn) (List.map eb b))) = some L:=by rw [hL,← bytesStr_map,List.map_drop,List.map_take]
     have hLS : (⟨L.toArray⟩ : ByteArray) = S:=by rw [hL,hS]; try rfl
     have hsz : S.size ≤ 1048576:=by
      rw [← bsI_len,hS,bsI_strOf (bytesOk_drop _ (bytesOk_take _ hb))]
      simp only [List.length_drop,List.length_take]; omega
     have p8 : ¬ (b.length : Int) < (m : Int) + 1 + (kn : Int):=by omega
     have p9 : ¬ (b.length : Int) - (m : Int) - 1 < (kn : Int):=by omega
     have p10 : (m : Int) + 1 + (kn : Int) ≤ (b.length : Int):=by omega
     have p11 : (m : Int) + 1 ≤ (b.length : Int):=by omega
     have p12 : ¬ (m : Int) + 1 + (kn : Int) = 0:=by omega
     cases hv : valOkF 2 0 S with
     | true =>
      have hr : getV b (m : Int) 2 = some (⟨2,0,S⟩,(m : Int) + 1 + (kn : Int)):=by
       unfold getV
       rw [if_neg (by omega),if_pos ⟨rfl,by omega⟩]
       simp only [Int.toNat_natCast,hc]
       rw [if_pos p10,p5,p6,← hS,if_pos hv]
      refine Ud (J8 h hc hce hm w1 w2 w3 (J8 w4 w5 w6 p1 p2 p3 p4 (J8 p5 p6 p7 p13 p8 p9 p10 (J8 p11 p12 q4 hbs hLS hsz hv hr)))) ?_
      repeat intro hc
      simp [pf551,hr]
     | false =>
      have hr : getV b (m : Int) 2 = none:=by
       unfold getV
       rw [if_neg (by omega),if_pos ⟨rfl,by omega⟩]
       simp only [Int.toNat_natCast,hc]
       rw [if_pos p10,p5,p6,← hS,if_neg (by rw [hv]; simp)]
      refine Ud (J8 h hc hce hm w1 w2 w3 (J8 w4 w5 w6 p1 p2 p3 p4 (J8 p5 p6 p7 p13 p8 p9 p10 (J8 p11 p12 q4 hbs hLS hsz hv hr)))) ?_
      simp [pf551,hr]
    ·have p8 : (b.length : Int) < (m : Int) + 1 + (kn : Int):=by omega
     have p9 : (b.length : Int) - (m : Int) - 1 < (kn : Int):=by omega
     have hr : getV b (m : Int) 2 = none:=by
      unfold getV
      rw [if_neg (by omega),if_pos ⟨rfl,by omega⟩]
      simp only [Int.toNat_natCast,hc]
      rw [if_neg (by omega)]
     refine Ud (J8 h hc hce hm w1 w2 w3 (J8 w4 w5 w6 p1 p2 p3 p4 (J6 p5 p6 p7 p8 p9 hr))) ?_
     simp [pf551,hr]
   ·have hr : getV b u 2 = none:=by
     unfold getV
     rw [if_neg (by omega)]
     split
     ·rename_i hh
      rw [List.getElem?_eq_none (by omega)]
     ·rfl
    have w6:=Wi ((b.length : Int) - 1)
    have hv0 : valOkF 2 0 ⟨#[]⟩ = true:=by simp [valOkF,textB,ba_data]; decide
    refine Ud (J4 hr hz w6 hv0) ?_ ?_
    all_goals repeat intro hc
    all_goals simp [pf551,hr]
  ·have hr : getV b u ty = none:=by simp [getV,q1,q2]
   have hv0 : valOkF ty 0 ⟨#[]⟩ = false:=by simp [valOkF,q1,q2]
   refine Ud (J5 hr hz q1 q2 hv0) ?_
   repeat intro hc
   simp [pf551,hr]

@[simp] theorem t538 (k0 : Bool) (b : List Int) (u ty : Int) (h : b.length ≤ 1048576) (hb : bytesOk b) : Gw TT 538 [.one (.ro k0 (.sl 1 (b.map eb))),vi u,vi ty] = some (gvV (getV b u ty),[]):=by
 refine Ga pf538 pb538 ?_
 unfold pb538
 have hz : (⟨#[]⟩ : ByteArray).size ≤ 1048576:=by decide
 by_cases q1 : ty = 1
 ·subst q1
  cases hg : gN b u with
  | none =>
   have hr : getV b u 1 = none:=by simp [getV,hg]
   refine Uw (J4 h hb hg hr) ?_
   simp [pf538,hr]
  | some q =>
   obtain ⟨n,t⟩:=q
   have hr : getV b u 1 = some (⟨1,n,⟨#[]⟩⟩,t):=by simp [getV,hg]
   obtain ⟨c1,c2,c3,_⟩:=gN_can hb hg
   have hv:=valOkF_int c1
   have ht : ¬ t = 0:=by omega
   refine Uw (J7 h hb hg hr hz hv ht) ?_
   simp [pf538,hr]
 ·by_cases q2 : ty = 2
  ·subst q2
   by_cases q3 : 0 ≤ u ∧ u < (b.length : Int)
   ·obtain ⟨m,rfl⟩:=Int.eq_ofNat_of_zero_le q3.1
    have hm : m < b.length:=by omega
    obtain ⟨c,hc⟩ : ∃ c,b[m]? = some c:=⟨_,List.getElem?_eq_getElem hm⟩
    have hce : b[m] = c:=(List.getElem?_eq_some_iff.1 hc).2
    have hc0:=hb c (List.mem_of_getElem? hc)
    obtain ⟨kn,rfl⟩:=Int.eq_ofNat_of_zero_le hc0.1
    have w1:=Wi ((m : Int) + 1)
    have w2 : IntKind.wrap .i64 (kn : Int) = (kn : Int):=wrap_i64 (by omega) (by omega)
    have w3:=Wi ((m : Int) + 1 + (kn : Int))
    have w4:=Wi ((b.length : Int) - (m : Int))
    have w5:=Wi ((b.length : Int) - (m : Int) - 1)
    have w6:=Wi ((b.length : Int) - 1)
    have p1 : (m : Int) < (b.length : Int):=by omega
    have p2 : (m : Int) ≤ (b.length : Int) - 1:=by omega
    have p3 : (0 : Int) ≤ (m : Int) + 1:=by omega
    have p4 : (0 : Int) ≤ (m : Int) + 1 + (kn : Int):=by omega
    have p5 : ((m : Int) + 1).toNat = m + 1:=by omega
    have p6 : ((m : Int) + 1 + (kn : Int)).toNat = m + 1 + kn:=by omega
    have p7 : m + 1 ≤ m + 1 + kn:=by omega
    have p13 : (m : Int) + 1 ≤ (m : Int) + 1 + (kn : Int):=by omega
    by_cases q4 : m + 1 + kn ≤ b.length
    ·obtain ⟨S,hS⟩ : ∃ S,S = strOf ((b.take (m + 1 + kn)).drop (m + 1)):=⟨_,rfl⟩
     obtain ⟨L,hL⟩ : ∃ L,L = ((b.take (m + 1 + kn)).drop (m + 1)).map (fun n => UInt8.ofNat n.toNat):=⟨_,rfl⟩
     have hbs : bytesStr (List.drop (m + 1) (List.take (m + 1 + kn) (List.map eb b))) = some L:=by rw [hL,← bytesStr_map,List.map_drop,List.map_take]
     have hLS : (⟨L.toArray⟩ : ByteArray) = S:=by rw [hL,hS]; try rfl
     have hsz : S.size ≤ 1048576:=by
      rw [← bsI_len,hS,bsI_strOf (bytesOk_drop _ (bytesOk_take _ hb))]
      simp only [List.length_drop,List.length_take]; omega
     have p8 : ¬ (b.length : Int) < (m : Int) + 1 + (kn : Int):=by omega
     have p9 : ¬ (b.length : Int) - (m : Int) - 1 < (kn : Int):=by omega
     have p10 : (m : Int) + 1 + (kn : Int) ≤ (b.length : Int):=by omega
     have p11 : (m : Int) + 1 ≤ (b.length : Int):=by omega
     have p12 : ¬ (m : Int) + 1 + (kn : Int) = 0:=by omega
     cases hv : valOkF 2 0 S with
     | true =>
      have hr : getV b (m : Int) 2 = some (⟨2,0,S⟩,(m : Int) + 1 + (kn : Int)):=by
       unfold getV
       rw [if_neg (by omega),if_pos ⟨rfl,by omega⟩]
       simp only [Int.toNat_natCast,hc]
       rw [if_pos p10,p5,p6,← hS,if_pos hv]
      refine Uw (J8 h hc hce hm w1 w2 w3 (J8 w4 w5 w6 p1 p2 p3 p4 (J8 p5 p6 p7 p13 p8 p9 p10 (J8 p11 p12 q4 hbs hLS hsz hv hr)))) ?_
      simp [pf538,hr]
     | false =>
      have hr : getV b (m : Int) 2 = none:=by
       unfold getV
       rw [if_neg (by omega),if_pos ⟨rfl,by omega⟩]
       simp only [Int.toNat_natCast,hc]
       rw [if_pos p10,p5,p6,← hS,if_neg (by rw [hv]; simp)]
      refine Uw (J8 h hc hce hm w1 w2 w3 (J8 w4 w5 w6 p1 p2 p3 p4 (J8 p5 p6 p7 p13 p8 p9 p10 (J8 p11 p12 q4 hbs hLS hsz hv hr)))) ?_
      simp [pf538,hr]
    ·have p8 : (b.length : Int) < (m : Int) + 1 + (kn : Int):=by omega
     have p9 : (b.length : Int) - (m : Int) - 1 < (kn : Int):=by omega
     have hr : getV b (m : Int) 2 = none:=by
      unfold getV
      rw [if_neg (by omega),if_pos ⟨rfl,by omega⟩]
      simp only [Int.toNat_natCast,hc]
      rw [if_neg (by omega)]
     refine Uw (J8 h hc hce hm w1 w2 w3 (J8 w4 w5 w6 p1 p2 p3 p4 (J6 p5 p6 p7 p8 p9 hr))) ?_
     simp [pf538,hr]
   ·have hr : getV b u 2 = none:=by
     unfold getV
     rw [if_neg (by omega)]
     split
     ·rename_i hh
      rw [List.getElem?_eq_none (by omega)]
     ·rfl
    have w6:=Wi ((b.length : Int) - 1)
    have hv0 : valOkF 2 0 ⟨#[]⟩ = true:=by simp [valOkF,textB,ba_data]; decide
    refine Uw (J4 hr hz w6 hv0) ?_
    repeat intro hc
    simp [pf538,hr]
  ·have hr : getV b u ty = none:=by simp [getV,q1,q2]
   have hv0 : valOkF ty 0 ⟨#[]⟩ = false:=by simp [valOkF,q1,q2]
   refine Uw (J5 hr hz q1 q2 hv0) ?_
   repeat intro hc
   simp [pf538,hr]

@[simp] theorem t550 (k0 : Bool) (l : List XVal) (h : l.length ≤ 1048576) (hs : XVal.sms l) : Gw TT 550 [.one (.ro k0 (.sl 3 (l.map XVal.e)))] = some (.one (.own (.sl 1 ((encP l).map eb))),[]):=by
 refine Ga pf550 pb550 ?_
 unfold pb550
 by_cases q : typF l = 0
 ·have he : encP l = []:=by simp [encP,q]
  refine Uw (J4 h hs q he) ?_
  simp [pf550,he]
 ·have he : encP l = encVs l:=by simp [encP,q]
  obtain ⟨q1,q2,_,_⟩:=typF_ne q
  refine Uw (J4 h hs q he) ?_
  repeat intro hc
  refine wp_loopI (σ:=List XVal × List XVal × List Int) (fun s => [(3,AV.pl 3 0 [],some (Rt.vir [C.own (D.sl 1 ((s.2.2).map eb))])),(11,AV.v k0 (D.sl 3 (l.map XVal.e)),none),(12,AV.v false (di (l.length : Nat)),none),(13,AV.v false (di ((s.1.length : Nat) : Int)),none)]) (fun s => l = s.1 ++ s.2.1 ∧ s.2.2 ++ encVs s.2.1 = encVs l ∧ s.2.2.length ≤ 7 * s.1.length) (fun s => s.2.1.length) ([],l,[]) (by simp) ⟨rfl,rfl,by simp⟩ ?_
  rintro ⟨pre,rest,a⟩ ⟨y1,y2,y4⟩
  simp only at y1 y2 y4
  have y3 : l.length = pre.length + rest.length:=by rw [y1,List.length_append]
  rcases rest with _ | ⟨⟨dT,dN,dS⟩,rest⟩
  ·simp only [List.length_nil] at y3
   simp only [encVs,List.flatMap_nil,List.append_nil] at y2
   have c1 : ¬ (pre.length : Int) < (l.length : Int):=by omega
   unfold pl550_0
   refine Uw c1 ?_
   simp [pf550,he,encVs,y2]
  ·simp only [List.length_cons] at y3
   have hd:=hs ⟨dT,dN,dS⟩ (by rw [y1]; simp)
   simp only [XVal.sm] at hd
   have hg : l[pre.length]? = some ⟨dT,dN,dS⟩:=by rw [y1]; simp
   obtain ⟨hlt,hge⟩:=List.getElem?_eq_some_iff.1 hg
   have c1 : (pre.length : Int) < (l.length : Int):=by omega
   have hw:=Wi ((pre.length : Int) + 1)
   have ha : a.length ≤ 1048000:=by omega
   have hp:=putV_len ⟨dT,dN,dS⟩
   unfold pl550_0
   refine Uw (J7 hg hge hlt c1 hw hd ha) ?_
   exact ⟨(pre ++ [⟨dT,dN,dS⟩],rest,a ++ putV ⟨dT,dN,dS⟩),by simp,⟨by rw [y1]; simp,by rw [← y2]; simp [encVs],by simp only [List.length_append,List.length_cons,List.length_nil]; omega⟩,by simp⟩

@[simp] theorem t578 (k0 : Bool) (l : List XVal) (h : l.length ≤ 1048576) (hs : XVal.sms l) : Gw TT 578 [.one (.ro k0 (.sl 3 (l.map XVal.e)))] = some (.one (.own (.sl 1 ((encP l).map eb))),[]):=by
 refine Ga pf578 pb578 ?_
 unfold pb578
 by_cases q : typF l = 0
 ·have he : encP l = []:=by simp [encP,q]
  refine Uw (J4 h hs q he) ?_
  simp [pf578,he]
 ·have he : encP l = encVs l:=by simp [encP,q]
  obtain ⟨q1,q2,_,_⟩:=typF_ne q
  refine Uw (J4 h hs q he) ?_
  repeat intro hc
  refine wp_loopI (σ:=List XVal × List XVal × List Int) (fun s => [(0,AV.v k0 (D.sl 3 (l.map XVal.e)),none),(3,AV.pl 3 0 [],some (Rt.vir [C.own (D.sl 1 ((s.2.2).map eb))])),(4,AV.v false (di ((s.1.length : Nat) : Int)),none)]) (fun s => l = s.1 ++ s.2.1 ∧ s.2.2 ++ encVs s.2.1 = encVs l ∧ s.2.2.length ≤ 7 * s.1.length) (fun s => s.2.1.length) ([],l,[]) (by simp) ⟨rfl,rfl,by simp⟩ ?_
  rintro ⟨pre,rest,a⟩ ⟨y1,y2,y4⟩
  simp only at y1 y2 y4
  have y3 : l.length = pre.length + rest.length:=by rw [y1,List.length_append]
  rcases rest with _ | ⟨⟨dT,dN,dS⟩,rest⟩
  ·simp only [List.length_nil] at y3
   simp only [encVs,List.flatMap_nil,List.append_nil] at y2
   have c1 : ¬ (pre.length : Int) < (l.length : Int):=by omega
   unfold pl578_0
   refine Uw c1 ?_
   simp [pf578,he,encVs,y2]
  ·simp only [List.length_cons] at y3
   have hd:=hs ⟨dT,dN,dS⟩ (by rw [y1]; simp)
   simp only [XVal.sm] at hd
   have hg : l[pre.length]? = some ⟨dT,dN,dS⟩:=by rw [y1]; simp
   obtain ⟨hlt,hge⟩:=List.getElem?_eq_some_iff.1 hg
   have c1 : (pre.length : Int) < (l.length : Int):=by omega
   have hw:=Wi ((pre.length : Int) + 1)
   have ha : a.length ≤ 1048000:=by omega
   have hp:=putV_len ⟨dT,dN,dS⟩
   unfold pl578_0
   refine Uw (J7 hg hge hlt c1 hw hd ha) ?_
   exact ⟨(pre ++ [⟨dT,dN,dS⟩],rest,a ++ putV ⟨dT,dN,dS⟩),by simp,⟨by rw [y1]; simp,by rw [← y2]; simp [encVs],by simp only [List.length_append,List.length_cons,List.length_nil]; omega⟩,by simp⟩

def gvsV (r : Option (List XVal × Int)) : V:=match r with
 | some (l,t) => .tup [.one (.own (.sl 3 (l.map XVal.e))),vi t,vb true]
 | none => .tup [.one (.own (.sl 3 [])),vi 0,vb false]
@[simp] theorem gvsV_some (l : List XVal) (t : Int) : gvsV (some (l,t)) = .tup [.one (.own (.sl 3 (l.map XVal.e))),vi t,vb true]:=rfl
@[simp] theorem gvsV_none : gvsV none = .tup [.one (.own (.sl 3 [])),vi 0,vb false]:=rfl

def odV (r : Option (List XVal)) : V:=match r with
 | some l => .tup [.one (.own (.sl 3 (l.map XVal.e))),vb true]
 | none => .tup [.one (.own (.sl 3 [])),vb false]
@[simp] theorem odV_some (l : List XVal) : odV (some l) = .tup [.one (.own (.sl 3 (l.map XVal.e))),vb true]:=rfl
@[simp] theorem odV_none : odV none = .tup [.one (.own (.sl 3 [])),vb false]:=rfl

@[simp] theorem t549 (k0 : Bool) (b : List Int) (u0 ty k : Int) (h : b.length ≤ 1048576) (hb : bytesOk b) (hk0 : 0 ≤ k) (hk : k ≤ 64) : Gw TT 549 [.one (.ro k0 (.sl 1 (b.map eb))),vi u0,vi ty,vi k] = some (gvsV (getVs b ty k.toNat u0),[]):=by
 refine Ga pf549 pb549 ?_
 unfold pb549
 obtain ⟨kn,rfl⟩:=Int.eq_ofNat_of_zero_le hk0
 have hkn : ((kn : Int)).toNat = kn:=by omega
 rw [hkn]
 refine Ua Oo ?_
 refine wp_loopI (σ:=List XVal × (Nat × Int)) (fun s => [(0,AV.v k0 (D.sl 1 (b.map eb)),none),(1,AV.v false (di s.2.2),none),(2,AV.v false (di ty),none),(3,AV.v false (di (kn : Nat)),none),(11,AV.pl 11 0 [],some (Rt.vir [C.own (D.sl 3 ((s.1).map XVal.e))])),(12,AV.v false (di (s.1.length : Nat)),none)]) (fun s => s.1.length + s.2.1 = kn ∧ getVs b ty kn u0 = preL s.1 (getVs b ty s.2.1 s.2.2)) (fun s => s.2.1) ([],(kn,u0)) (by simp) ⟨by simp,by rw [preL_nil]⟩ ?_
 rintro ⟨a,⟨i,v⟩⟩ ⟨y1,y2⟩
 simp only at y1 y2
 have hq : (a.length + 1) * 32 ≤ 70368744177664:=by omega
 cases i with
 | zero =>
  have c1 : ¬ (a.length : Int) < (kn : Int):=by omega
  simp only [getVs,preL_some,List.append_nil] at y2
  unfold pl549_0
  refine Ua (J2 c1 y2) ?_
  simp [pf549,y2]
 | succ i =>
  have c1 : (a.length : Int) < (kn : Int):=by omega
  have hw:=Wi ((a.length : Int) + 1)
  cases hv : getV b v ty with
  | none =>
   rw [getVs_none hv] at y2
   unfold pl549_0
   refine Ua (J6 c1 hw h hb hv y2) ?_
   simp [pf549,y2]
  | some q =>
   obtain ⟨⟨dT,dN,dS⟩,t⟩:=q
   rw [getVs_some hv] at y2
   unfold pl549_0
   refine Ua (J6 c1 hw h hb hv hq) ?_
   exact ⟨(a ++ [⟨dT,dN,dS⟩],(i,t)),by simp,⟨by simp; omega,y2⟩,by simp⟩

@[simp] theorem t514 (k0 : Bool) (b : List Int) (ty k : Int) (h : b.length ≤ 1048576) (hb : bytesOk b) : Gw TT 514 [.one (.ro k0 (.sl 1 (b.map eb))),vi ty,vi k] = some (odV (decP b ty k),[]):=by
 refine Ga pf514 pb514 ?_
 unfold pb514
 by_cases q : 1 ≤ k ∧ k ≤ 64
 ·obtain ⟨kn,rfl⟩:=Int.eq_ofNat_of_zero_le (show 0 ≤ k by omega)
  have q1 : (1 : Int) ≤ (kn : Int):=q.1
  have q2 : (kn : Int) ≤ 64:=q.2
  have hdp : decP b ty (kn : Int) = match getVs b ty kn 0 with
    | some (l,t) => if t = (b.length : Int) then some l else none
    | none => none:=by unfold decP; rw [if_pos q,show ((kn : Int)).toNat = kn by omega]; try rfl
  obtain ⟨u0,hu0⟩ : ∃ u0 : Int,u0 = 0:=⟨_,rfl⟩
  rw [← hu0] at hdp
  refine Uw (J2 q1 q2) ?_
  refine wp_loopI (σ:=List XVal × (Nat × Int)) (fun s => [(0,AV.v k0 (D.sl 1 (b.map eb)),none),(1,AV.v false (di ty),none),(2,AV.v false (di (kn : Nat)),none),(8,AV.pl 8 0 [],some (Rt.vir [C.own (D.sl 3 ((s.1).map XVal.e))])),(9,AV.v false (di s.2.2),none),(10,AV.v false (di (s.1.length : Nat)),none)]) (fun s => s.1.length + s.2.1 = kn ∧ getVs b ty kn u0 = preL s.1 (getVs b ty s.2.1 s.2.2)) (fun s => s.2.1) ([],(kn,u0)) (by simp [hu0]) ⟨by simp,by rw [preL_nil]⟩ ?_
  rintro ⟨a,⟨i,v⟩⟩ ⟨y1,y2⟩
  simp only at y1 y2
  have hq : (a.length + 1) * 32 ≤ 70368744177664:=by omega
  cases i with
  | zero =>
   have c1 : ¬ (a.length : Int) < (kn : Int):=by omega
   simp only [getVs,preL_some,List.append_nil] at y2
   rw [y2] at hdp
   simp only at hdp
   unfold pl514_0
   by_cases e1 : v = (b.length : Int)
   ·rw [if_pos e1] at hdp
    refine Uw (J3 c1 e1 hdp) ?_
    simp [pf514,hdp]
   ·rw [if_neg e1] at hdp
    refine Uw (J3 c1 e1 hdp) ?_
    repeat intro hc
    simp [pf514,hdp]
  | succ i =>
   have c1 : (a.length : Int) < (kn : Int):=by omega
   have hw:=Wi ((a.length : Int) + 1)
   cases hv : getV b v ty with
   | none =>
    rw [getVs_none hv] at y2
    rw [y2] at hdp
    simp only at hdp
    unfold pl514_0
    refine Uw (J6 c1 hw h hb hv hdp) ?_
    simp [pf514,hdp]
   | some q =>
    obtain ⟨⟨dT,dN,dS⟩,t⟩:=q
    rw [getVs_some hv] at y2
    unfold pl514_0
    refine Uw (J6 c1 hw h hb hv hq) ?_
    exact ⟨(a ++ [⟨dT,dN,dS⟩],(i,t)),by simp,⟨by simp; omega,y2⟩,by simp⟩
 ·have hdp : decP b ty k = none:=by unfold decP; rw [if_neg q]
  refine Uw hdp ?_
  repeat intro hc
  simp [pf514,hdp]

theorem set_last {α : Type} (f : α → List D) (o : List α) (a b : List D) : (List.map f o ++ [a]).set o.length b = List.map f o ++ [b]:=by
 have : o.length = (List.map f o).length:=by simp
 rw [this,List.set_append_right _ _ (Nat.le_refl _)]; simp

theorem get_last {α : Type} (f : α → List D) (o : List α) (a : List D) : (List.map f o ++ [a])[o.length]? = some a:=by
 rw [List.getElem?_append_right (by simp)]; simp

theorem get_last' {α : Type} (f : α → List D) (o : List α) (a : List D) (h : o.length < (List.map f o ++ [a]).length) : (List.map f o ++ [a])[o.length] = a:=by
 have:=get_last f o a
 rw [List.getElem?_eq_getElem h] at this
 simpa using this

theorem runAdd_eq (o : List XRun) (v : XVal) (c : Int) : runAdd (o ++ [⟨v,c⟩]) v = o ++ [⟨v,c + 1⟩]:=by
 have : valEq v v = true:=valEq_iff.2 rfl
 simp [runAdd,this]

theorem runAdd_ne (o : List XRun) (x v : XVal) (c : Int) (h : valEq x v = false) : runAdd (o ++ [⟨x,c⟩]) v = o ++ [⟨x,c⟩] ++ [⟨v,1⟩]:=by
 simp [runAdd,h]

@[simp] theorem t580 (k0 : Bool) (l : List XVal) (h : l.length ≤ 1048576) : Gw TT 580 [.one (.ro k0 (.sl 3 (l.map XVal.e)))] = some (.one (.own (.sl 4 ((runsF l).map XRun.e))),[]):=by
 refine Ga pf580 pb580 ?_
 unfold pb580
 refine Ud Oo ?_
 refine wp_loopI (σ:=List XVal × List XVal × List XRun) (fun s => [(0,AV.v k0 (D.sl 3 (l.map XVal.e)),none),(3,AV.pl 3 0 [],some (Rt.vir [C.own (D.sl 4 (s.2.2.map XRun.e))])),(7,AV.v k0 (D.sl 3 (l.map XVal.e)),none),(8,AV.v false (di (l.length : Nat)),none),(9,AV.v false (di ((s.1.length : Nat) : Int)),none)]) (fun s => l = s.1 ++ s.2.1 ∧ runsF l = runsG s.2.2 s.2.1 ∧ s.2.2.length ≤ s.1.length ∧ ((s.1 = [] ∧ s.2.2 = []) ∨ ∃ p x o c,s.1 = p ++ [x] ∧ s.2.2 = o ++ [⟨x,c⟩] ∧ 1 ≤ c ∧ c ≤ (s.1.length : Int))) (fun s => s.2.1.length) ([],l,[]) (by simp) ⟨rfl,rfl,by simp,.inl ⟨rfl,rfl⟩⟩ ?_
 rintro ⟨pre,rest,o⟩ ⟨y1,y2,y4,y5⟩
 simp only at y1 y2 y4 y5
 have y3 : l.length = pre.length + rest.length:=by rw [y1,List.length_append]
 rcases rest with _ | ⟨⟨dT,dN,dS⟩,rest⟩
 ·simp only [List.length_nil] at y3
  simp only [runsG] at y2
  have c1 : ¬ (pre.length : Int) < (l.length : Int):=by omega
  unfold pl580_0
  refine Ud c1 ?_
  repeat intro hc
  simp [pf580,y2]
 ·simp only [List.length_cons] at y3
  simp only [runsG] at y2
  have hg : l[pre.length]? = some ⟨dT,dN,dS⟩:=by rw [y1]; simp
  obtain ⟨hlt,hge⟩:=List.getElem?_eq_some_iff.1 hg
  have c1 : (pre.length : Int) < (l.length : Int):=by omega
  have hw:=Wi ((pre.length : Int) + 1)
  have hq : (o.length + 1) * 40 ≤ 70368744177664:=by omega
  rcases y5 with ⟨rfl,rfl⟩ | ⟨p,⟨xT,xN,xS⟩,o,c,rfl,rfl,h1,h2⟩
  ·simp only [List.length_nil,Nat.zero_add] at y3 hg hge hlt c1 hw hq
   unfold pl580_0
   refine Ud (J6 hg hge hlt c1 hw hq) ?_
   repeat intro hc
   exact ⟨([⟨dT,dN,dS⟩],rest,[⟨⟨dT,dN,dS⟩,1⟩]),by simp,⟨by rw [y1]; simp,by rw [y2]; rfl,by simp,.inr ⟨[],⟨dT,dN,dS⟩,[],1,rfl,rfl,by omega,by simp⟩⟩,by simp⟩
  ·simp only [List.length_append,List.length_cons,List.length_nil,Nat.zero_add] at y3 y4 hg hge hlt c1 hw hq h2
   have hg1 : l[p.length]? = some ⟨xT,xN,xS⟩:=by rw [y1]; simp
   obtain ⟨hlt1,hge1⟩:=List.getElem?_eq_some_iff.1 hg1
   have hm1 : IntKind.wrap .i64 (p.length : Int) = (p.length : Int):=wrap_i64 (by omega) (by omega)
   have hm2 : IntKind.wrap .i64 (o.length : Int) = (o.length : Int):=wrap_i64 (by omega) (by omega)
   have hm3:=Wi (c + 1)
   have hcp : (0 : Int) < (p.length : Int) + 1:=by omega
   have hco : (0 : Int) < (o.length : Int) + 1:=by omega
   have hq2 : (o.length + 1 + 1) * 40 ≤ 70368744177664:=by omega
   have hpl : (p.length : Int) < (l.length : Int):=by omega
   push_cast at *
   unfold pl580_0
   by_cases hv : valEq ⟨xT,xN,xS⟩ ⟨dT,dN,dS⟩ = true
   ·have e:=valEq_iff.1 hv
    simp only [XVal.mk.injEq] at e
    obtain ⟨rfl,rfl,rfl⟩:=e
    rw [runAdd_eq] at y2
    refine Ud (J8 hg hge hlt c1 hw hq hg1 (J8 hge1 hlt1 hm1 hm2 hm3 hcp hco (J5 hpl @set_last @get_last @get_last' @Int.add_sub_cancel))) ?_
    repeat intro hc
    exact ⟨(p ++ [⟨xT,xN,xS⟩] ++ [⟨xT,xN,xS⟩],rest,o ++ [⟨⟨xT,xN,xS⟩,c + 1⟩]),(by simp; try omega),⟨by rw [y1]; simp,y2,by simp; omega,.inr ⟨p ++ [⟨xT,xN,xS⟩],⟨xT,xN,xS⟩,o,c + 1,rfl,rfl,by omega,by simp; omega⟩⟩,by simp⟩
   ·rw [runAdd_ne _ _ _ _ (by simpa using hv)] at y2
    have hb : (xT == dT && (xN == dN && xS.toList == dS.toList)) = false:=by simpa [valEq] using hv
    refine Ud (J8 hg hge hlt c1 hw hq hq2 (J8 hg1 hge1 hlt1 hm1 hm2 hm3 hcp (J7 hco hpl @set_last @get_last @get_last' @Int.add_sub_cancel hb))) ?_
    repeat intro hc
    exact ⟨(p ++ [⟨xT,xN,xS⟩] ++ [⟨dT,dN,dS⟩],rest,o ++ [⟨⟨xT,xN,xS⟩,c⟩] ++ [⟨⟨dT,dN,dS⟩,1⟩]),(by simp; try omega),⟨by rw [y1]; simp,y2,by simp; omega,.inr ⟨p ++ [⟨xT,xN,xS⟩],⟨dT,dN,dS⟩,o ++ [⟨⟨xT,xN,xS⟩,c⟩],1,rfl,rfl,by omega,by simp; omega⟩⟩,by simp⟩

@[simp] theorem t568 (k0 : Bool) (l : List XVal) (h : l.length ≤ 1048576) : Gw TT 568 [.one (.ro k0 (.sl 3 (l.map XVal.e)))] = some (.one (.own (.sl 4 ((runsF l).map XRun.e))),[]):=by
 refine Ga pf568 pb568 ?_
 unfold pb568
 refine Ud Oo ?_
 refine wp_loopI (σ:=List XVal × List XVal × List XRun) (fun s => [(0,AV.v k0 (D.sl 3 (l.map XVal.e)),none),(3,AV.pl 3 0 [],some (Rt.vir [C.own (D.sl 4 (s.2.2.map XRun.e))])),(4,AV.v false (di ((s.1.length : Nat) : Int)),none)]) (fun s => l = s.1 ++ s.2.1 ∧ runsF l = runsG s.2.2 s.2.1 ∧ s.2.2.length ≤ s.1.length ∧ ((s.1 = [] ∧ s.2.2 = []) ∨ ∃ p x o c,s.1 = p ++ [x] ∧ s.2.2 = o ++ [⟨x,c⟩] ∧ 1 ≤ c ∧ c ≤ (s.1.length : Int))) (fun s => s.2.1.length) ([],l,[]) (by simp) ⟨rfl,rfl,by simp,.inl ⟨rfl,rfl⟩⟩ ?_
 rintro ⟨pre,rest,o⟩ ⟨y1,y2,y4,y5⟩
 simp only at y1 y2 y4 y5
 have y3 : l.length = pre.length + rest.length:=by rw [y1,List.length_append]
 rcases rest with _ | ⟨⟨dT,dN,dS⟩,rest⟩
 ·simp only [List.length_nil] at y3
  simp only [runsG] at y2
  have c1 : ¬ (pre.length : Int) < (l.length : Int):=by omega
  unfold pl568_0
  refine Ud c1 ?_
  repeat intro hc
  simp [pf568,y2]
 ·simp only [List.length_cons] at y3
  simp only [runsG] at y2
  have hg : l[pre.length]? = some ⟨dT,dN,dS⟩:=by rw [y1]; simp
  obtain ⟨hlt,hge⟩:=List.getElem?_eq_some_iff.1 hg
  have c1 : (pre.length : Int) < (l.length : Int):=by omega
  have hw:=Wi ((pre.length : Int) + 1)
  have hq : (o.length + 1) * 40 ≤ 70368744177664:=by omega
  rcases y5 with ⟨rfl,rfl⟩ | ⟨p,⟨xT,xN,xS⟩,o,c,rfl,rfl,h1,h2⟩
  ·simp only [List.length_nil,Nat.zero_add] at y3 hg hge hlt c1 hw hq
   unfold pl568_0
   refine Ud (J6 hg hge hlt c1 hw hq) ?_
   repeat intro hc
   exact ⟨([⟨dT,dN,dS⟩],rest,[⟨⟨dT,dN,dS⟩,1⟩]),by simp,⟨by rw [y1]; simp,by rw [y2]; rfl,by simp,.inr ⟨[],⟨dT,dN,dS⟩,[],1,rfl,rfl,by omega,by simp⟩⟩,by simp⟩
  ·simp only [List.length_append,List.length_cons,List.length_nil,Nat.zero_add] at y3 y4 hg hge hlt c1 hw hq h2
   have hg1 : l[p.length]? = some ⟨xT,xN,xS⟩:=by rw [y1]; simp
   obtain ⟨hlt1,hge1⟩:=List.getElem?_eq_some_iff.1 hg1
   have hm1 : IntKind.wrap .i64 (p.length : Int) = (p.length : Int):=wrap_i64 (by omega) (by omega)
   have hm2 : IntKind.wrap .i64 (o.length : Int) = (o.length : Int):=wrap_i64 (by omega) (by omega)
   have hm3:=Wi (c + 1)
   have hcp : (0 : Int) < (p.length : Int) + 1:=by omega
   have hco : (0 : Int) < (o.length : Int) + 1:=by omega
   have hq2 : (o.length + 1 + 1) * 40 ≤ 70368744177664:=by omega
   have hpl : (p.length : Int) < (l.length : Int):=by omega
   push_cast at *
   unfold pl568_0
   by_cases hv : valEq ⟨xT,xN,xS⟩ ⟨dT,dN,dS⟩ = true
   ·have e:=valEq_iff.1 hv
    simp only [XVal.mk.injEq] at e
    obtain ⟨rfl,rfl,rfl⟩:=e
    rw [runAdd_eq] at y2
    refine Ud (J8 hg hge hlt c1 hw hq hg1 (J8 hge1 hlt1 hm1 hm2 hm3 hcp hco (J5 hpl @set_last @get_last @get_last' @Int.add_sub_cancel))) ?_
    repeat intro hc
    exact ⟨(p ++ [⟨xT,xN,xS⟩] ++ [⟨xT,xN,xS⟩],rest,o ++ [⟨⟨xT,xN,xS⟩,c + 1⟩]),(by simp; try omega),⟨by rw [y1]; simp,y2,by simp; omega,.inr ⟨p ++ [⟨xT,xN,xS⟩],⟨xT,xN,xS⟩,o,c + 1,rfl,rfl,by omega,by simp; omega⟩⟩,by simp⟩
   ·rw [runAdd_ne _ _ _ _ (by simpa using hv)] at y2
    have hb : (xT == dT && (xN == dN && xS.toList == dS.toList)) = false:=by simpa [valEq] using hv
    refine Ud (J8 hg hge hlt c1 hw hq hq2 (J8 hg1 hge1 hlt1 hm1 hm2 hm3 hcp (J7 hco hpl @set_last @get_last @get_last' @Int.add_sub_cancel hb))) ?_
    repeat intro hc
    exact ⟨(p ++ [⟨xT,xN,xS⟩] ++ [⟨dT,dN,dS⟩],rest,o ++ [⟨⟨xT,xN,xS⟩,c⟩] ++ [⟨⟨dT,dN,dS⟩,1⟩]),(by simp; try omega),⟨by rw [y1]; simp,y2,by simp; omega,.inr ⟨p ++ [⟨xT,xN,xS⟩],⟨dT,dN,dS⟩,o ++ [⟨⟨xT,xN,xS⟩,c⟩],1,rfl,rfl,by omega,by simp; omega⟩⟩,by simp⟩

@[simp] theorem t552 (k0 : Bool) (l : List XRun) (h : l.length ≤ 1048576) : Gw TT 552 [.one (.ro k0 (.sl 4 (l.map XRun.e)))] = some (.one (.own (.sl 3 ((spreadF l).map XVal.e))),[]):=by
 refine Ga pf552 pb552 ?_
 unfold pb552
 refine Ua Oo ?_
 refine wp_loopI (σ:=List XRun × List XRun × List XVal) (fun s => [(3,AV.pl 3 0 [],some (Rt.vir [C.own (D.sl 3 ((s.2.2).map XVal.e))])),(8,AV.v k0 (D.sl 4 (l.map XRun.e)),none),(9,AV.v false (di (l.length : Nat)),none),(10,AV.v false (di ((s.1.length : Nat) : Int)),none)]) (fun s => l = s.1 ++ s.2.1 ∧ spreadF l = spG s.2.2 s.2.1 ∧ s.2.2.length ≤ 64) (fun s => s.2.1.length) ([],l,[]) (by simp) ⟨rfl,rfl,by simp⟩ ?_
 rintro ⟨pre,rest,o⟩ ⟨y1,y2,y4⟩
 simp only at y1 y2 y4
 have y3 : l.length = pre.length + rest.length:=by rw [y1,List.length_append]
 rcases rest with _ | ⟨⟨⟨dT,dN,dS⟩,K⟩,rest⟩
 ·simp only [List.length_nil] at y3
  simp only [spG] at y2
  have c1 : ¬ (pre.length : Int) < (l.length : Int):=by omega
  unfold pl552_1
  refine Ua c1 ?_
  simp [pf552,y2]
 ·simp only [List.length_cons] at y3
  simp only [spG] at y2
  have hg : l[pre.length]? = some ⟨⟨dT,dN,dS⟩,K⟩:=by rw [y1]; simp
  obtain ⟨hlt,hge⟩:=List.getElem?_eq_some_iff.1 hg
  have c1 : (pre.length : Int) < (l.length : Int):=by omega
  have hw:=Wi ((pre.length : Int) + 1)
  have hm:=Wi (64 - (o.length : Int))
  by_cases q : K < 1 ∨ 64 - (o.length : Int) < K
  ·rw [if_pos q] at y2
   unfold pl552_1
   by_cases q1 : K < 1
   ·refine Ua (J8 hg hge hlt c1 hw hm q1 y2) ?_
    simp [pf552,y2]
   ·have q2 : 64 - (o.length : Int) < K:=by omega
    refine Ua (J8 hg hge hlt c1 hw hm q1 (J2 q2 y2)) ?_
    simp [pf552,y2]
  ·rw [if_neg q] at y2
   obtain ⟨c,rfl⟩:=Int.eq_ofNat_of_zero_le (show 0 ≤ K by omega)
   have q1 : ¬ (c : Int) < 1:=by omega
   have q2 : ¬ 64 - (o.length : Int) < (c : Int):=by omega
   have hc : ((c : Int)).toNat = c:=by omega
   rw [hc] at y2
   unfold pl552_1
   refine Ua (J8 hg hge hlt c1 hw hm q1 q2) ?_
   refine wp_loopI (σ:=Nat) (fun s => [(3,AV.pl 3 0 [],some (Rt.vir [C.own (D.sl 3 ((o ++ List.replicate s (⟨dT,dN,dS⟩ : XVal)).map XVal.e))])),(5,AV.bx 5 0,some (Rt.bx [.ro false (di dT),.ro false (di dN),.ro false (.str dS),.ro false (di (c : Nat))])),(6,AV.v false (di ((s : Nat) : Int)),none),(8,AV.v k0 (D.sl 4 (l.map XRun.e)),none),(9,AV.v false (di (l.length : Nat)),none),(10,AV.v false (di ((pre.length : Nat) : Int)),none)]) (fun s => s ≤ c) (fun s => c - s) 0 (by simp) (by omega) ?_
   intro m hmc
   by_cases e : m = c
   ·subst e
    have e1 : ¬ (m : Int) < (m : Int):=by omega
    unfold pl552_0
    refine Ua (J5 e1 hw hg hge hlt) ?_
    exact ⟨(pre ++ [⟨⟨dT,dN,dS⟩,(m : Int)⟩],rest,o ++ List.replicate m ⟨dT,dN,dS⟩),(by simp; try omega),⟨by rw [y1]; simp,y2,by simp; omega⟩,by simp⟩
   ·have e1 : (m : Int) < (c : Int):=by omega
    have hw2:=Wi ((m : Int) + 1)
    have hq : (o.length + m + 1) * 32 ≤ 70368744177664:=by omega
    have hr : List.replicate (m + 1) (⟨dT,dN,dS⟩ : XVal) = List.replicate m ⟨dT,dN,dS⟩ ++ [⟨dT,dN,dS⟩]:=List.replicate_succ'
    unfold pl552_0
    refine Ua (J7 e1 hw2 hq hg hge hlt c1) ?_
    exact ⟨m + 1,(by simp [List.replicate_succ']; try omega),by show m + 1 ≤ c; omega,by show c - (m + 1) < c - m; omega⟩

@[simp] theorem t539 (k0 : Bool) (l : List XRun) (h : l.length ≤ 1048576) : Gw TT 539 [.one (.ro k0 (.sl 4 (l.map XRun.e)))] = some (.one (.own (.sl 3 ((spreadF l).map XVal.e))),[]):=by
 refine Ga pf539 pb539 ?_
 unfold pb539
 refine Ua Oo ?_
 refine wp_loopI (σ:=List XRun × List XRun × List XVal) (fun s => [(0,AV.v k0 (D.sl 4 (l.map XRun.e)),none),(3,AV.pl 3 0 [],some (Rt.vir [C.own (D.sl 3 ((s.2.2).map XVal.e))])),(4,AV.v false (di ((s.1.length : Nat) : Int)),none)]) (fun s => l = s.1 ++ s.2.1 ∧ spreadF l = spG s.2.2 s.2.1 ∧ s.2.2.length ≤ 64) (fun s => s.2.1.length) ([],l,[]) (by simp) ⟨rfl,rfl,by simp⟩ ?_
 rintro ⟨pre,rest,o⟩ ⟨y1,y2,y4⟩
 simp only at y1 y2 y4
 have y3 : l.length = pre.length + rest.length:=by rw [y1,List.length_append]
 rcases rest with _ | ⟨⟨⟨dT,dN,dS⟩,K⟩,rest⟩
 ·simp only [List.length_nil] at y3
  simp only [spG] at y2
  have c1 : ¬ (pre.length : Int) < (l.length : Int):=by omega
  unfold pl539_1
  refine Ua c1 ?_
  simp [pf539,y2]
 ·simp only [List.length_cons] at y3
  simp only [spG] at y2
  have hg : l[pre.length]? = some ⟨⟨dT,dN,dS⟩,K⟩:=by rw [y1]; simp
  obtain ⟨hlt,hge⟩:=List.getElem?_eq_some_iff.1 hg
  have c1 : (pre.length : Int) < (l.length : Int):=by omega
  have hw:=Wi ((pre.length : Int) + 1)
  have hm:=Wi (64 - (o.length : Int))
  by_cases q : K < 1 ∨ 64 - (o.length : Int) < K
  ·rw [if_pos q] at y2
   unfold pl539_1
   by_cases q1 : K < 1
   ·refine Ua (J8 hg hge hlt c1 hw hm q1 y2) ?_
    simp [pf539,y2]
   ·have q2 : 64 - (o.length : Int) < K:=by omega
    refine Ua (J8 hg hge hlt c1 hw hm q1 (J2 q2 y2)) ?_
    simp [pf539,y2]
  ·rw [if_neg q] at y2
   obtain ⟨c,rfl⟩:=Int.eq_ofNat_of_zero_le (show 0 ≤ K by omega)
   have q1 : ¬ (c : Int) < 1:=by omega
   have q2 : ¬ 64 - (o.length : Int) < (c : Int):=by omega
   have hc : ((c : Int)).toNat = c:=by omega
   rw [hc] at y2
   unfold pl539_1
   refine Ua (J8 hg hge hlt c1 hw hm q1 q2) ?_
   refine wp_loopI (σ:=Nat) (fun s => [(0,AV.v k0 (D.sl 4 (l.map XRun.e)),none),(3,AV.pl 3 0 [],some (Rt.vir [C.own (D.sl 3 ((o ++ List.replicate s (⟨dT,dN,dS⟩ : XVal)).map XVal.e))])),(4,AV.v false (di ((pre.length : Nat) : Int)),none),(5,AV.v false (di ((s : Nat) : Int)),none)]) (fun s => s ≤ c) (fun s => c - s) 0 (by simp) (by omega) ?_
   intro m hmc
   by_cases e : m = c
   ·subst e
    have e1 : ¬ (m : Int) < (m : Int):=by omega
    unfold pl539_0
    refine Ua (J5 e1 hw hg hge hlt) ?_
    exact ⟨(pre ++ [⟨⟨dT,dN,dS⟩,(m : Int)⟩],rest,o ++ List.replicate m ⟨dT,dN,dS⟩),(by simp; try omega),⟨by rw [y1]; simp,y2,by simp; omega⟩,by simp⟩
   ·have e1 : (m : Int) < (c : Int):=by omega
    have hw2:=Wi ((m : Int) + 1)
    have hq : (o.length + m + 1) * 32 ≤ 70368744177664:=by omega
    have hr : List.replicate (m + 1) (⟨dT,dN,dS⟩ : XVal) = List.replicate m ⟨dT,dN,dS⟩ ++ [⟨dT,dN,dS⟩]:=List.replicate_succ'
    unfold pl539_0
    refine Ua (J7 e1 hw2 hq hg hge hlt c1) ?_
    exact ⟨m + 1,(by simp [List.replicate_succ']; try omega),by show m + 1 ≤ c; omega,by show c - (m + 1) < c - m; omega⟩

@[simp] theorem n531 (k0 : Bool) (n : Int) : Gw TT 531 [.one (.ro k0 (.sl 1 [])),vi n] = some (.one (.own (.sl 1 ((encN n).map eb))),[]):=by
 have:=t531 k0 [] n (by simp)
 simpa using this

@[simp] theorem n566 (k0 : Bool) (n : Int) : Gw TT 566 [.one (.ro k0 (.sl 1 [])),vi n] = some (.one (.own (.sl 1 ((encN n).map eb))),[]):=by
 have:=t566 k0 [] n (by simp)
 simpa using this

theorem runAdd_mem {o : List XRun} {v : XVal} {r : XRun} (h : r ∈ runAdd o v) : (∃ q ∈ o,q.V = r.V) ∨ r.V = v:=by
 unfold runAdd at h
 split at h
 ·rename_i q hq
  have hqm:=List.mem_of_getLast? hq
  split at h
  ·rcases List.mem_append.1 h with h | h
   ·exact .inl ⟨r,(List.dropLast_sublist o).subset h,rfl⟩
   ·simp at h; subst h; exact .inl ⟨q,hqm,rfl⟩
  ·rcases List.mem_append.1 h with h | h
   ·exact .inl ⟨r,h,rfl⟩
   ·simp at h; subst h; exact .inr rfl
 ·simp at h; subst h; exact .inr rfl

theorem runsG_mem : ∀ {l : List XVal} {o : List XRun} {r : XRun},r ∈ runsG o l → (∃ q ∈ o,q.V = r.V) ∨ r.V ∈ l
 | [],o,r,h => .inl ⟨r,h,rfl⟩
 | v :: l,o,r,h => by
  rcases runsG_mem (l:=l) h with ⟨q,hq,e⟩ | h
  ·rcases runAdd_mem hq with ⟨q',hq',e'⟩ | e'
   ·exact .inl ⟨q',hq',e'.trans e⟩
   ·exact .inr (by rw [← e,e']; simp)
  ·exact .inr (by simp [h])

theorem runsF_mem {l : List XVal} {r : XRun} (h : r ∈ runsF l) : r.V ∈ l:=by
 rcases runsG_mem h with ⟨q,hq,_⟩ | h
 ·simp at hq
 ·exact h

theorem typF_sz {l : List XVal} (h : typF l ≠ 0) : ∀ v ∈ l,v.S.size ≤ 6:=fun v hv => valOkF_len (typA_mem (typF_ne h).2.2.1 v hv).1

@[simp] theorem t553 (k0 : Bool) (l : List XVal) (h : l.length ≤ 1048576) (hs : XVal.sms l) : Gw TT 553 [.one (.ro k0 (.sl 3 (l.map XVal.e)))] = some (.one (.own (.sl 1 ((encR l).map eb))),[]):=by
 refine Ga pf553 pb553 ?_
 unfold pb553
 by_cases q : typF l = 0
 ·have he : encR l = []:=by simp [encR,q]
  refine Uw (J4 h hs q he) ?_
  simp [pf553,he]
 ·have he : encR l = encN (runsF l).length ++ encRs (runsF l):=by simp [encR,q]
  obtain ⟨q1,q2,_,_⟩:=typF_ne q
  have hm : ∀ r ∈ runsF l,r.V.S.size ≤ 6:=fun r hr => typF_sz q _ (runsF_mem hr)
  have hrl:=runsF_len l
  obtain ⟨R,hR⟩ : ∃ R,R = runsF l:=⟨_,rfl⟩
  rw [← hR] at he hm hrl
  have hn:=encN_len (R.length : Int)
  repeat' first|refine Zs ?_|((with_reducible refine Xk fun K k=>?_);simp [h,hs,q,he,← hR];refine k _ ?_;clear k K)|refine Xt rfl ?_|refine Xf rfl ?_|(refine We rfl ?_ ?_<;>(intro hc;(try simp at hc);(all_goals first|(exfalso;omega)|skip)))
  refine wp_loopI (σ:=List XRun × List XRun × List Int) (fun s => [(3,AV.pl 3 0 [],some (Rt.vir [C.own (D.sl 1 ((s.2.2).map eb))])),(4,AV.pl 4 0 [],some (Rt.vir [C.own (D.sl 4 (R.map XRun.e))])),(18,AV.pl 4 0 [],none),(19,AV.v false (di (R.length : Nat)),none),(20,AV.v false (di ((s.1.length : Nat) : Int)),none)]) (fun s => R = s.1 ++ s.2.1 ∧ s.2.2 ++ encRs s.2.1 = encR l ∧ s.2.2.length ≤ 5 + 12 * s.1.length) (fun s => s.2.1.length) ([],R,encN R.length) (by simp) ⟨rfl,he.symm,by simp; omega⟩ ?_
  rintro ⟨pre,rest,a⟩ ⟨y1,y2,y4⟩
  simp only at y1 y2 y4
  have y3 : R.length = pre.length + rest.length:=by rw [y1,List.length_append]
  rcases rest with _ | ⟨⟨⟨dT,dN,dS⟩,K⟩,rest⟩
  ·simp only [List.length_nil] at y3
   simp only [encRs,List.flatMap_nil,List.append_nil] at y2
   have c1 : ¬ (pre.length : Int) < (R.length : Int):=by omega
   unfold pl553_0
   refine Uw c1 ?_
   simp [pf553,y2]
  ·simp only [List.length_cons] at y3
   have hd:=hm ⟨⟨dT,dN,dS⟩,K⟩ (by rw [y1]; simp)
   simp only at hd
   have hd2 : dS.size ≤ 1048576:=by omega
   have hg : R[pre.length]? = some ⟨⟨dT,dN,dS⟩,K⟩:=by rw [y1]; simp
   obtain ⟨hlt,hge⟩:=List.getElem?_eq_some_iff.1 hg
   have c1 : (pre.length : Int) < (R.length : Int):=by omega
   have hw:=Wi ((pre.length : Int) + 1)
   have hk:=encN_len K
   have hp:=putV_len ⟨dT,dN,dS⟩
   have ha : a.length ≤ 1048576:=by omega
   have ha2 : a.length + (encN K).length ≤ 1048000:=by omega
   have h5:=t579 true (a ++ encN K) dT dN dS (by simp only [List.length_append]; exact ha2) hd2
   simp only [List.map_append] at h5
   unfold pl553_0
   refine Uw (J8 hg hge hlt c1 hw hd2 ha (J2 ha2 h5)) ?_
   exact ⟨(pre ++ [⟨⟨dT,dN,dS⟩,K⟩],rest,a ++ (encN K ++ putV ⟨dT,dN,dS⟩)),(by simp; try omega),⟨by rw [y1]; simp,by rw [← y2]; simp [encRs,putR],by simp only [List.length_append,List.length_cons,List.length_nil]; omega⟩,by simp⟩

@[simp] theorem t540 (k0 : Bool) (l : List XVal) (h : l.length ≤ 1048576) (hs : XVal.sms l) : Gw TT 540 [.one (.ro k0 (.sl 3 (l.map XVal.e)))] = some (.one (.own (.sl 1 ((encR l).map eb))),[]):=by
 refine Ga pf540 pb540 ?_
 unfold pb540
 by_cases q : typF l = 0
 ·have he : encR l = []:=by simp [encR,q]
  refine Uw (J4 h hs q he) ?_
  simp [pf540,he]
 ·have he : encR l = encN (runsF l).length ++ encRs (runsF l):=by simp [encR,q]
  obtain ⟨q1,q2,_,_⟩:=typF_ne q
  have hm : ∀ r ∈ runsF l,r.V.S.size ≤ 6:=fun r hr => typF_sz q _ (runsF_mem hr)
  have hrl:=runsF_len l
  obtain ⟨R,hR⟩ : ∃ R,R = runsF l:=⟨_,rfl⟩
  rw [← hR] at he hm hrl
  have hn:=encN_len (R.length : Int)
  repeat' first|refine Zs ?_|((with_reducible refine Xk fun K k=>?_);simp [h,hs,q,he,← hR];refine k _ ?_;clear k K)|refine Xt rfl ?_|refine Xf rfl ?_|(refine We rfl ?_ ?_<;>(intro hc;(try simp at hc);(all_goals first|(exfalso;omega)|skip)))
  refine wp_loopI (σ:=List XRun × List XRun × List Int) (fun s => [(3,AV.pl 3 0 [],some (Rt.vir [C.own (D.sl 4 (R.map XRun.e))])),(4,AV.pl 4 0 [],some (Rt.vir [C.own (D.sl 1 ((s.2.2).map eb))])),(5,AV.v false (di ((s.1.length : Nat) : Int)),none)]) (fun s => R = s.1 ++ s.2.1 ∧ s.2.2 ++ encRs s.2.1 = encR l ∧ s.2.2.length ≤ 5 + 12 * s.1.length) (fun s => s.2.1.length) ([],R,encN R.length) (by simp) ⟨rfl,he.symm,by simp; omega⟩ ?_
  rintro ⟨pre,rest,a⟩ ⟨y1,y2,y4⟩
  simp only at y1 y2 y4
  have y3 : R.length = pre.length + rest.length:=by rw [y1,List.length_append]
  rcases rest with _ | ⟨⟨⟨dT,dN,dS⟩,K⟩,rest⟩
  ·simp only [List.length_nil] at y3
   simp only [encRs,List.flatMap_nil,List.append_nil] at y2
   have c1 : ¬ (pre.length : Int) < (R.length : Int):=by omega
   unfold pl540_0
   refine Uw c1 ?_
   simp [pf540,y2]
  ·simp only [List.length_cons] at y3
   have hd:=hm ⟨⟨dT,dN,dS⟩,K⟩ (by rw [y1]; simp)
   simp only at hd
   have hd2 : dS.size ≤ 1048576:=by omega
   have hg : R[pre.length]? = some ⟨⟨dT,dN,dS⟩,K⟩:=by rw [y1]; simp
   obtain ⟨hlt,hge⟩:=List.getElem?_eq_some_iff.1 hg
   have c1 : (pre.length : Int) < (R.length : Int):=by omega
   have hw:=Wi ((pre.length : Int) + 1)
   have hk:=encN_len K
   have hp:=putV_len ⟨dT,dN,dS⟩
   have ha : a.length ≤ 1048576:=by omega
   have ha2 : a.length + (encN K).length ≤ 1048000:=by omega
   have h5:=t569 true (a ++ encN K) dT dN dS (by simp only [List.length_append]; exact ha2) hd2
   simp only [List.map_append] at h5
   unfold pl540_0
   refine Uw (J8 hg hge hlt c1 hw hd2 ha (J2 ha2 h5)) ?_
   exact ⟨(pre ++ [⟨⟨dT,dN,dS⟩,K⟩],rest,a ++ (encN K ++ putV ⟨dT,dN,dS⟩)),(by simp; try omega),⟨by rw [y1]; simp,by rw [← y2]; simp [encRs,putR],by simp only [List.length_append,List.length_cons,List.length_nil]; omega⟩,by simp⟩

theorem getR_some1 {b : List Int} {u ty n t : Int} (h : gN b u = some (n,t)) : getR b u ty = match getV b t ty with
  | some (v,t2) => some (⟨v,n⟩,t2)
  | none => none:=by unfold getR; rw [h]; try rfl

theorem getR_none1 {b : List Int} {u ty : Int} (h : gN b u = none) : getR b u ty = none:=by unfold getR; rw [h]

theorem getV_sz {b : List Int} {u ty t : Int} {v : XVal} (hb : bytesOk b) (h : getV b u ty = some (v,t)) : v.S.size ≤ 6:=valOkF_len (getV_can hb h).1.1

theorem getRs_sz {b : List Int} {ty : Int} (hb : bytesOk b) : ∀ {k : Nat} {u t : Int} {l : List XRun},getRs b ty k u = some (l,t) → ∀ r ∈ l,r.V.S.size ≤ 6
 | 0,u,t,l,h,r,hr => by simp only [getRs,Option.some.injEq,Prod.mk.injEq] at h; rw [← h.1] at hr; simp at hr
 | k + 1,u,t,l,h,r,hr => by
  simp only [getRs] at h
  split at h
  ·rename_i v t1 hv
   split at h
   ·rename_i hl
    simp only [Option.some.injEq,Prod.mk.injEq] at h
    rw [← h.1] at hr
    rcases List.mem_cons.1 hr with rfl | hr
    ·unfold getR at hv
     split at hv
     ·split at hv
      ·rename_i hg
       simp only [Option.some.injEq,Prod.mk.injEq] at hv
       rw [← hv.1]
       exact getV_sz hb hg
      ·cases hv
     ·cases hv
    ·exact getRs_sz hb hl r hr
   ·cases h
  ·cases h

theorem spG_mem : ∀ {l : List XRun} {o : List XVal} {v : XVal},v ∈ spG o l → v ∈ o ∨ ∃ r ∈ l,r.V = v
 | [],o,v,h => .inl h
 | r :: l,o,v,h => by
  simp only [spG] at h
  split at h
  ·simp at h
  ·rcases spG_mem h with h | ⟨q,hq,e⟩
   ·rcases List.mem_append.1 h with h | h
    ·exact .inl h
    ·exact .inr ⟨r,by simp,(List.eq_of_mem_replicate h).symm⟩
   ·exact .inr ⟨q,by simp [hq],e⟩

theorem spreadF_sms {l : List XRun} (h : ∀ r ∈ l,r.V.S.size ≤ 6) : XVal.sms (spreadF l):=fun v hv => by
 rcases spG_mem hv with hv | ⟨r,hr,e⟩
 ·simp at hv
 ·have:=h r hr
  simp only [XVal.sm]; rw [← e]; omega

@[simp] theorem t515 (k0 : Bool) (b : List Int) (ty k : Int) (h : b.length ≤ 1048576) (hb : bytesOk b) : Gw TT 515 [.one (.ro k0 (.sl 1 (b.map eb))),vi ty,vi k] = some (odV (decR b ty k),[]):=by
 refine Ga pf515 pb515 ?_
 unfold pb515
 cases hg : gN b 0 with
 | none =>
  have hdr : decR b ty k = none:=by unfold decR; rw [hg]
  refine Ud (J4 h hb hg hdr) ?_
  simp [pf515,hdr]
 | some q =>
  obtain ⟨n,u⟩:=q
  by_cases q1 : 1 ≤ n ∧ n ≤ 64
  ·obtain ⟨m,rfl⟩:=Int.eq_ofNat_of_zero_le (show 0 ≤ n by omega)
   have q2 : (1 : Int) ≤ (m : Int):=q1.1
   have q3 : (m : Int) ≤ 64:=q1.2
   by_cases q4 : 1 ≤ k ∧ k ≤ 64
   ·have hdr : ∀ {r : List XRun} {t : Int},getRs b ty m u = some (r,t) → decR b ty k = chkE b k encR (spreadF r):=fun {r t} hr => by
     unfold decR; rw [hg]; simp only; rw [if_pos q1,show ((m : Int)).toNat = m by omega,hr]
    have hdn : getRs b ty m u = none → decR b ty k = none:=fun hr => by
     unfold decR; rw [hg]; simp only; rw [if_pos q1,show ((m : Int)).toNat = m by omega,hr]
    refine Ud (J7 h hb hg q2 q3 q4.1 q4.2) ?_
    refine wp_loopI (σ:=List XRun × (Nat × Int)) (fun s => [(0,AV.v k0 (D.sl 1 (b.map eb)),none),(1,AV.v false (di ty),none),(2,AV.v false (di k),none),(8,AV.pl 8 0 [],some (Rt.vir [C.own (D.sl 3 [])])),(9,AV.v false (di (m : Nat)),none),(10,AV.v false (di s.2.2),none),(12,AV.pl 12 0 [],some (Rt.vir [C.own (D.sl 4 (s.1.map XRun.e))])),(13,AV.v false (di (s.1.length : Nat)),none)]) (fun s => s.1.length + s.2.1 = m ∧ getRs b ty m u = preL s.1 (getRs b ty s.2.1 s.2.2)) (fun s => s.2.1) ([],(m,u)) (by simp) ⟨by simp,by rw [preL_nil]⟩ ?_
    rintro ⟨a,⟨i,v⟩⟩ ⟨y1,y2⟩
    simp only at y1 y2
    have hq : (a.length + 1) * 40 ≤ 70368744177664:=by omega
    cases i with
    | zero =>
     have c1 : ¬ (a.length : Int) < (m : Int):=by omega
     simp only [getRs,preL_some,List.append_nil] at y2
     have hd:=hdr y2
     have hS:=spreadF_sms (getRs_sz hb y2)
     have hSl:=spreadF_len a
     obtain ⟨S,hSe⟩ : ∃ S,S = spreadF a:=⟨_,rfl⟩
     rw [← hSe] at hd hS hSl
     have hS2 : S.length ≤ 1048576:=by omega
     have ha : a.length ≤ 1048576:=by omega
     have hse:=strEq (encR_ok S) hb
     unfold pl515_0
     by_cases e1 : (S.length : Int) = k
     ·have e2 : ¬ k = (S.length : Int) → False:=fun e => e e1.symm
      by_cases e3 : encR S = b
      ·have e4 : ((strOf (encR S)).toList == (strOf b).toList) = true:=by rw [hse]; simpa using e3
       have hd2 : decR b ty k = some S:=by rw [hd]; unfold chkE; rw [if_pos ⟨q4,e1,e3.symm⟩]
       repeat' first|refine Zs ?_|((with_reducible refine Xk fun K k=>?_);simp [c1,ha,← hSe,hS,hS2,e1,e4,hd2];(repeat' (with_reducible first|refine k _ ?_|(refine psel ?_ ?_<;>(intro hc;(try rw [Decidable.not_not] at hc);first|(exfalso;omega)|(try simp [hc,c1,ha,← hSe,hS,hS2,e1,e4,hd2])))));all_goals clear k K)|refine Xt rfl ?_|refine Xf rfl ?_|(refine We rfl ?_ ?_<;>(intro hc;(try simp at hc);(all_goals first|(exfalso;omega)|skip)))
       simp [pf515,hd2]
      ·have e4 : ((strOf (encR S)).toList == (strOf b).toList) = false:=by rw [hse]; simpa using e3
       have hd2 : decR b ty k = none:=by rw [hd]; unfold chkE; rw [if_neg (fun e => e3 e.2.2.symm)]
       repeat' first|refine Zs ?_|((with_reducible refine Xk fun K k=>?_);simp [c1,ha,← hSe,hS,hS2,e1,e4,hd2];(repeat' (with_reducible first|refine k _ ?_|(refine psel ?_ ?_<;>(intro hc;(try rw [Decidable.not_not] at hc);first|(exfalso;omega)|(try simp [hc,c1,ha,← hSe,hS,hS2,e1,e4,hd2])))));all_goals clear k K)|refine Xt rfl ?_|refine Xf rfl ?_|(refine We rfl ?_ ?_<;>(intro hc;(try simp at hc);(all_goals first|(exfalso;omega)|skip)))
       simp [pf515,hd2]
     ·have hd2 : decR b ty k = none:=by rw [hd]; unfold chkE; rw [if_neg (fun e => e1 e.2.1)]
      repeat' first|refine Zs ?_|((with_reducible refine Xk fun K k=>?_);simp [c1,ha,← hSe,hS,hS2,e1,hd2];(repeat' (with_reducible first|refine k _ ?_|(refine psel ?_ ?_<;>(intro hc;(try rw [Decidable.not_not] at hc);first|(exfalso;omega)|(try simp [hc,c1,ha,← hSe,hS,hS2,e1,hd2])))));all_goals clear k K)|refine Xt rfl ?_|refine Xf rfl ?_|(refine We rfl ?_ ?_<;>(intro hc;(try simp at hc);(all_goals first|(exfalso;omega)|skip)))
      simp [pf515,hd2]
    | succ i =>
     have c1 : (a.length : Int) < (m : Int):=by omega
     have hw:=Wi ((a.length : Int) + 1)
     cases hv : gN b v with
     | none =>
      rw [getRs_none (getR_none1 hv)] at y2
      have hd2:=hdn y2
      unfold pl515_0
      cases hv0 : getV b 0 ty with
      | none =>
       refine Ud (J7 c1 hw h hb hv hv0 hd2) ?_
       simp [pf515,hd2]
      | some q =>
       obtain ⟨⟨dT,dN,dS⟩,t⟩:=q
       refine Ud (J7 c1 hw h hb hv hv0 hd2) ?_
       simp [pf515,hd2]
     | some q =>
      obtain ⟨c,t1⟩:=q
      have hr1:=getR_some1 (ty:=ty) hv
      cases hv2 : getV b t1 ty with
      | none =>
       rw [hv2] at hr1
       rw [getRs_none hr1] at y2
       have hd2:=hdn y2
       unfold pl515_0
       refine Ud (J7 c1 hw h hb hv hv2 hd2) ?_
       simp [pf515,hd2]
      | some q =>
       obtain ⟨⟨dT,dN,dS⟩,t⟩:=q
       rw [hv2] at hr1
       rw [getRs_some hr1] at y2
       unfold pl515_0
       refine Ud (J7 c1 hw h hb hv hv2 hq) ?_
       exact ⟨(a ++ [⟨⟨dT,dN,dS⟩,c⟩],(i,t)),(by simp; try omega),⟨by simp; omega,y2⟩,by simp⟩
   ·have hd2 : decR b ty k = none:=by
     unfold decR; rw [hg]; simp only
     rw [if_pos q1]
     split
     ·unfold chkE; rw [if_neg (fun e => q4 e.1)]
     ·rfl
    refine Ud (J6 h hb hg q2 q3 hd2) ?_
    repeat intro hc
    simp [pf515,hd2]
  ·have hd2 : decR b ty k = none:=by
    unfold decR; rw [hg]; simp only
    rw [if_neg q1]
   by_cases q4 : 1 ≤ k ∧ k ≤ 64
   ·refine Ud (J6 h hb hg q4.1 q4.2 hd2) ?_
    repeat intro hc
    simp [pf515,hd2]
   ·refine Ud (J4 h hb hg hd2) ?_
    repeat intro hc
    simp [pf515,hd2]

@[simp] theorem t508 (x_Ty x_N : Int) (x_S : ByteArray) (y_Ty y_N : Int) (y_S : ByteArray) : Gw TT 508 [.st [.ro false (di x_Ty),.ro false (di x_N),.ro false (.str x_S)],.st [.ro false (di y_Ty),.ro false (di y_N),.ro false (.str y_S)]] = some (vb (ltVF x_Ty x_N x_S y_Ty y_N y_S),[]):=by
 refine Ga pf508 pb508 ?_
 unfold pb508
 by_cases q1 : x_Ty = y_Ty
 ·by_cases q2 : x_N = y_N
  ·subst q1; subst q2
   refine Uw Oo ?_
   simp [pf508,ltVF]
  ·subst q1
   refine Uw q2 ?_
   repeat intro hc
   simp [pf508,ltVF,q2]
 ·refine Uw q1 ?_
  repeat intro hc
  simp [pf508,ltVF,q1]

@[simp] theorem t505 (x_Ty x_N : Int) (x_S : ByteArray) (y_Ty y_N : Int) (y_S : ByteArray) : Gw TT 505 [.st [.ro false (di x_Ty),.ro false (di x_N),.ro false (.str x_S)],.st [.ro false (di y_Ty),.ro false (di y_N),.ro false (.str y_S)]] = some (vb (ltVF x_Ty x_N x_S y_Ty y_N y_S),[]):=by
 refine Ga pf505 pb505 ?_
 unfold pb505
 by_cases q1 : x_Ty = y_Ty
 ·by_cases q2 : x_N = y_N
  ·subst q1; subst q2
   refine Uw Oo ?_
   simp [pf505,ltVF]
  ·subst q1
   refine Uw q2 ?_
   repeat intro hc
   simp [pf505,ltVF,q2]
 ·refine Uw q1 ?_
  repeat intro hc
  simp [pf505,ltVF,q1]

def cmpVF (t n : Int) (s : ByteArray) (t' n' : Int) (s' : ByteArray) : Int:=if ltVF t n s t' n' s' = true then -1 else if ltVF t' n' s' t n s = true then 1 else 0

@[simp] theorem t596 (x_Ty x_N : Int) (x_S : ByteArray) (y_Ty y_N : Int) (y_S : ByteArray) : Gw TT 596 [.st [.ro false (di x_Ty),.ro false (di x_N),.ro false (.str x_S)],.st [.ro false (di y_Ty),.ro false (di y_N),.ro false (.str y_S)]] = some (vi (cmpVF x_Ty x_N x_S y_Ty y_N y_S),[]):=by
 refine Ga pf596 pb596 ?_
 unfold pb596
 cases q1 : ltVF x_Ty x_N x_S y_Ty y_N y_S with
 | true =>
  refine Ua q1 ?_
  simp [pf596,cmpVF,q1]
 | false =>
  cases q2 : ltVF y_Ty y_N y_S x_Ty x_N x_S with
  | true =>
   refine Ua (J2 q1 q2) ?_
   simp [pf596,cmpVF,q1,q2]
  | false =>
   refine Ua (J2 q1 q2) ?_
   simp [pf596,cmpVF,q1,q2]

theorem valEq_comm (a b : XVal) : valEq a b = valEq b a:=by
 cases h : valEq a b with
 | true => have:=valEq_iff.1 h; subst this; exact h.symm
 | false =>
  cases h2 : valEq b a with
  | true => have:=valEq_iff.1 h2; subst this; rw [h2] at h; cases h
  | false => rfl

@[simp] theorem t600 (k0 : Bool) (d : List XVal) (x_Ty x_N : Int) (x_S : ByteArray) (h : d.length ≤ 1048576) : Gw TT 600 [.one (.ro k0 (.sl 3 (d.map XVal.e))),.st [.ro false (di x_Ty),.ro false (di x_N),.ro false (.str x_S)]] = some (vi (inD ⟨x_Ty,x_N,x_S⟩ d 0),[]):=by
 refine Ga pf600 pb600 ?_
 unfold pb600
 refine Ua Oo ?_
 refine wp_loopI (σ:=List XVal × List XVal) (fun s => [(0,AV.v k0 (D.sl 3 (d.map XVal.e)),none),(3,AV.bx 3 0,some (Rt.bx [.ro false (di x_Ty),.ro false (di x_N),.ro false (.str x_S)])),(7,AV.v false (di (d.length : Nat)),none),(8,AV.v false (di ((s.1.length : Nat) : Int)),none)]) (fun s => d = s.1 ++ s.2 ∧ inD ⟨x_Ty,x_N,x_S⟩ d 0 = inD ⟨x_Ty,x_N,x_S⟩ s.2 s.1.length) (fun s => s.2.length) ([],d) (by simp) ⟨rfl,rfl⟩ ?_
 rintro ⟨pre,rest⟩ ⟨y1,y2⟩
 simp only at y1 y2
 have y3 : d.length = pre.length + rest.length:=by rw [y1,List.length_append]
 rcases rest with _ | ⟨⟨dT,dN,dS⟩,rest⟩
 ·simp only [List.length_nil] at y3
  simp only [inD] at y2
  have c1 : ¬ (pre.length : Int) < (d.length : Int):=by omega
  unfold pl600_0
  refine Ua (J2 c1 y2) ?_
  simp [pf600,y2]
 ·simp only [List.length_cons] at y3
  simp only [inD] at y2
  have hg : d[pre.length]? = some ⟨dT,dN,dS⟩:=by rw [y1]; simp
  obtain ⟨hlt,hge⟩:=List.getElem?_eq_some_iff.1 hg
  have c1 : (pre.length : Int) < (d.length : Int):=by omega
  have hw:=Wi ((pre.length : Int) + 1)
  unfold pl600_0
  cases hv : valEq ⟨dT,dN,dS⟩ ⟨x_Ty,x_N,x_S⟩ with
  | true =>
   rw [if_pos hv] at y2
   have e:=valEq_iff.1 hv
   simp only [XVal.mk.injEq] at e
   obtain ⟨rfl,rfl,rfl⟩:=e
   refine Ua (J6 hg hge hlt c1 hw y2) ?_
   simp [pf600,y2]
  | false =>
   rw [if_neg (by rw [hv]; simp)] at y2
   have hb1 : (dT == x_Ty && (dN == x_N && dS.toList == x_S.toList)) = false:=hv
   have hb2 : (x_Ty == dT && (x_N == dN && x_S.toList == dS.toList)) = false:=(valEq_comm ⟨x_Ty,x_N,x_S⟩ ⟨dT,dN,dS⟩).trans hv
   refine Ua (J7 hg hge hlt c1 hw hb1 hb2) ?_
   exact ⟨(pre ++ [⟨dT,dN,dS⟩],rest),(by simp; try omega),⟨by rw [y1]; simp,by rw [y2]; simp⟩,by simp⟩

@[simp] theorem t591 (k0 : Bool) (d : List XVal) (x_Ty x_N : Int) (x_S : ByteArray) (h : d.length ≤ 1048576) : Gw TT 591 [.one (.ro k0 (.sl 3 (d.map XVal.e))),.st [.ro false (di x_Ty),.ro false (di x_N),.ro false (.str x_S)]] = some (vi (inD ⟨x_Ty,x_N,x_S⟩ d 0),[]):=by
 refine Ga pf591 pb591 ?_
 unfold pb591
 refine Ua Oo ?_
 refine wp_loopI (σ:=List XVal × List XVal) (fun s => [(0,AV.v k0 (D.sl 3 (d.map XVal.e)),none),(3,AV.bx 3 0,some (Rt.bx [.ro false (di x_Ty),.ro false (di x_N),.ro false (.str x_S)])),(5,AV.v false (di ((s.1.length : Nat) : Int)),none)]) (fun s => d = s.1 ++ s.2 ∧ inD ⟨x_Ty,x_N,x_S⟩ d 0 = inD ⟨x_Ty,x_N,x_S⟩ s.2 s.1.length) (fun s => s.2.length) ([],d) (by simp) ⟨rfl,rfl⟩ ?_
 rintro ⟨pre,rest⟩ ⟨y1,y2⟩
 simp only at y1 y2
 have y3 : d.length = pre.length + rest.length:=by rw [y1,List.length_append]
 rcases rest with _ | ⟨⟨dT,dN,dS⟩,rest⟩
 ·simp only [List.length_nil] at y3
  simp only [inD] at y2
  have c1 : ¬ (pre.length : Int) < (d.length : Int):=by omega
  unfold pl591_0
  refine Ua (J2 c1 y2) ?_
  simp [pf591,y2]
 ·simp only [List.length_cons] at y3
  simp only [inD] at y2
  have hg : d[pre.length]? = some ⟨dT,dN,dS⟩:=by rw [y1]; simp
  obtain ⟨hlt,hge⟩:=List.getElem?_eq_some_iff.1 hg
  have c1 : (pre.length : Int) < (d.length : Int):=by omega
  have hw:=Wi ((pre.length : Int) + 1)
  unfold pl591_0
  cases hv : valEq ⟨dT,dN,dS⟩ ⟨x_Ty,x_N,x_S⟩ with
  | true =>
   rw [if_pos hv] at y2
   have e:=valEq_iff.1 hv
   simp only [XVal.mk.injEq] at e
   obtain ⟨rfl,rfl,rfl⟩:=e
   refine Ua (J6 hg hge hlt c1 hw y2) ?_
   simp [pf591,y2]
  | false =>
   rw [if_neg (by rw [hv]; simp)] at y2
   have hb1 : (dT == x_Ty && (dN == x_N && dS.toList == x_S.toList)) = false:=hv
   have hb2 : (x_Ty == dT && (x_N == dN && x_S.toList == dS.toList)) = false:=(valEq_comm ⟨x_Ty,x_N,x_S⟩ ⟨dT,dN,dS⟩).trans hv
   refine Ua (J7 hg hge hlt c1 hw hb1 hb2) ?_
   exact ⟨(pre ++ [⟨dT,dN,dS⟩],rest),(by simp; try omega),⟨by rw [y1]; simp,by rw [y2]; simp⟩,by simp⟩

@[simp] theorem t598 (k0 : Bool) (d : List XVal) (x_Ty x_N : Int) (x_S : ByteArray) (h : d.length ≤ 1048576) : Gw TT 598 [.one (.ro k0 (.sl 3 (d.map XVal.e))),.st [.ro false (di x_Ty),.ro false (di x_N),.ro false (.str x_S)]] = some (vi (inD ⟨x_Ty,x_N,x_S⟩ d 0),[]):=by
 refine Ga pf598 pb598 ?_
 unfold pb598
 refine Ua h ?_
 simp [pf598]

def preO {α : Type} (a : List α) (r : Option (List α)) : Option (List α):=match r with
 | some l => some (a ++ l)
 | none => none
@[simp] theorem preO_none {α : Type} (a : List α) : preO a none = none:=rfl
@[simp] theorem preO_some {α : Type} (a l : List α) : preO a (some l) = some (a ++ l):=rfl
theorem preO_nil {α : Type} (r : Option (List α)) : preO [] r = r:=by cases r <;> rfl

theorem placesF_neg {d l : List XVal} {a : List Int} {v : XVal} (h : inD v d 0 < 0) : preO a (placesF d (v :: l)) = none:=by
 simp only [placesF]; rw [if_pos h]; try rfl

theorem placesF_pos {d l : List XVal} {a : List Int} {v : XVal} (h : ¬ inD v d 0 < 0) : preO a (placesF d (v :: l)) = preO (a ++ [inD v d 0]) (placesF d l):=by
 simp only [placesF]; rw [if_neg h]
 cases placesF d l with
 | none => rfl
 | some p => simp [preO]

@[simp] theorem t585 (k0 k1 : Bool) (d l : List XVal) (h : d.length ≤ 1048576) (h2 : l.length ≤ 1048576) : Gw TT 585 [.one (.ro k0 (.sl 3 (d.map XVal.e))),.one (.ro k1 (.sl 3 (l.map XVal.e)))] = some (olV (placesF d l),[]):=by
 refine Ga pf585 pb585 ?_
 unfold pb585
 refine Ua Oo ?_
 refine wp_loopI (σ:=List XVal × List XVal × List Int) (fun s => [(0,AV.v k0 (D.sl 3 (d.map XVal.e)),none),(6,AV.pl 6 0 [],some (Rt.vir [C.own (D.sl 1 ((s.2.2).map ei))])),(11,AV.v k1 (D.sl 3 (l.map XVal.e)),none),(12,AV.v false (di (l.length : Nat)),none),(13,AV.v false (di ((s.1.length : Nat) : Int)),none)]) (fun s => l = s.1 ++ s.2.1 ∧ placesF d l = preO s.2.2 (placesF d s.2.1) ∧ s.2.2.length ≤ s.1.length) (fun s => s.2.1.length) ([],l,[]) (by simp) ⟨rfl,by rw [preO_nil],by simp⟩ ?_
 rintro ⟨pre,rest,a⟩ ⟨y1,y2,y4⟩
 simp only at y1 y2 y4
 have y3 : l.length = pre.length + rest.length:=by rw [y1,List.length_append]
 rcases rest with _ | ⟨⟨dT,dN,dS⟩,rest⟩
 ·simp only [List.length_nil] at y3
  simp only [placesF,preO_some,List.append_nil] at y2
  have c1 : ¬ (pre.length : Int) < (l.length : Int):=by omega
  unfold pl585_0
  refine Ua (J2 c1 y2) ?_
  simp [pf585,y2]
 ·simp only [List.length_cons] at y3
  have hg : l[pre.length]? = some ⟨dT,dN,dS⟩:=by rw [y1]; simp
  obtain ⟨hlt,hge⟩:=List.getElem?_eq_some_iff.1 hg
  have c1 : (pre.length : Int) < (l.length : Int):=by omega
  have hw:=Wi ((pre.length : Int) + 1)
  have hq : (a.length + 1) * 8 ≤ 70368744177664:=by omega
  unfold pl585_0
  by_cases q : inD ⟨dT,dN,dS⟩ d 0 < 0
  ·rw [placesF_neg q] at y2
   refine Ua (J8 hg hge hlt c1 hw h q y2) ?_
   simp [pf585,y2]
  ·rw [placesF_pos q] at y2
   refine Ua (J8 hg hge hlt c1 hw h q hq) ?_
   exact ⟨(pre ++ [⟨dT,dN,dS⟩],rest,a ++ [inD ⟨dT,dN,dS⟩ d 0]),(by simp; try omega),⟨by rw [y1]; simp,y2,by simp; omega⟩,by simp⟩

@[simp] theorem t573 (k0 k1 : Bool) (d l : List XVal) (h : d.length ≤ 1048576) (h2 : l.length ≤ 1048576) : Gw TT 573 [.one (.ro k0 (.sl 3 (d.map XVal.e))),.one (.ro k1 (.sl 3 (l.map XVal.e)))] = some (olV (placesF d l),[]):=by
 refine Ga pf573 pb573 ?_
 unfold pb573
 refine Ua Oo ?_
 refine wp_loopI (σ:=List XVal × List XVal × List Int) (fun s => [(0,AV.v k0 (D.sl 3 (d.map XVal.e)),none),(1,AV.v k1 (D.sl 3 (l.map XVal.e)),none),(6,AV.pl 6 0 [],some (Rt.vir [C.own (D.sl 1 ((s.2.2).map ei))])),(7,AV.v false (di ((s.1.length : Nat) : Int)),none)]) (fun s => l = s.1 ++ s.2.1 ∧ placesF d l = preO s.2.2 (placesF d s.2.1) ∧ s.2.2.length ≤ s.1.length) (fun s => s.2.1.length) ([],l,[]) (by simp) ⟨rfl,by rw [preO_nil],by simp⟩ ?_
 rintro ⟨pre,rest,a⟩ ⟨y1,y2,y4⟩
 simp only at y1 y2 y4
 have y3 : l.length = pre.length + rest.length:=by rw [y1,List.length_append]
 rcases rest with _ | ⟨⟨dT,dN,dS⟩,rest⟩
 ·simp only [List.length_nil] at y3
  simp only [placesF,preO_some,List.append_nil] at y2
  have c1 : ¬ (pre.length : Int) < (l.length : Int):=by omega
  unfold pl573_0
  refine Ua (J2 c1 y2) ?_
  simp [pf573,y2]
 ·simp only [List.length_cons] at y3
  have hg : l[pre.length]? = some ⟨dT,dN,dS⟩:=by rw [y1]; simp
  obtain ⟨hlt,hge⟩:=List.getElem?_eq_some_iff.1 hg
  have c1 : (pre.length : Int) < (l.length : Int):=by omega
  have hw:=Wi ((pre.length : Int) + 1)
  have hq : (a.length + 1) * 8 ≤ 70368744177664:=by omega
  unfold pl573_0
  by_cases q : inD ⟨dT,dN,dS⟩ d 0 < 0
  ·rw [placesF_neg q] at y2
   refine Ua (J8 hg hge hlt c1 hw h q y2) ?_
   simp [pf573,y2]
  ·rw [placesF_pos q] at y2
   refine Ua (J8 hg hge hlt c1 hw h q hq) ?_
   exact ⟨(pre ++ [⟨dT,dN,dS⟩],rest,a ++ [inD ⟨dT,dN,dS⟩ d 0]),(by simp; try omega),⟨by rw [y1]; simp,y2,by simp; omega⟩,by simp⟩

theorem pickF_no {d : List XVal} {l : List Int} {a : List XVal} {i : Int} (h : ¬ (0 ≤ i ∧ i < (d.length : Int))) : preO a (pickF d (i :: l)) = none:=by
 simp only [pickF]
 split
 ·rw [List.getElem?_eq_none (by omega)]; try rfl
 ·rfl

theorem pickF_yes {d : List XVal} {l : List Int} {a : List XVal} {i : Nat} {v : XVal} (h : d[i]? = some v) : preO a (pickF d ((i : Int) :: l)) = preO (a ++ [v]) (pickF d l):=by
 simp only [pickF]
 rw [if_pos (by omega),show ((i : Int)).toNat = i by omega,h]
 simp only
 cases pickF d l with
 | none => rfl
 | some p => simp [preO]

@[simp] theorem t556 (k0 k1 : Bool) (d : List XVal) (l : List Int) (h : d.length ≤ 1048576) (h2 : l.length ≤ 1048576) : Gw TT 556 [.one (.ro k0 (.sl 3 (d.map XVal.e))),.one (.ro k1 (.sl 1 (l.map ei)))] = some (odV (pickF d l),[]):=by
 refine Ga pf556 pb556 ?_
 unfold pb556
 refine Ud Oo ?_
 refine wp_loopI (σ:=List Int × List Int × List XVal) (fun s => [(0,AV.v k0 (D.sl 3 (d.map XVal.e)),none),(6,AV.pl 6 0 [],some (Rt.vir [C.own (D.sl 3 ((s.2.2).map XVal.e))])),(10,AV.v k1 (D.sl 1 (l.map ei)),none),(11,AV.v false (di (l.length : Nat)),none),(12,AV.v false (di ((s.1.length : Nat) : Int)),none)]) (fun s => l = s.1 ++ s.2.1 ∧ pickF d l = preO s.2.2 (pickF d s.2.1) ∧ s.2.2.length ≤ s.1.length) (fun s => s.2.1.length) ([],l,[]) (by simp) ⟨rfl,by rw [preO_nil],by simp⟩ ?_
 rintro ⟨pre,rest,a⟩ ⟨y1,y2,y4⟩
 simp only at y1 y2 y4
 have y3 : l.length = pre.length + rest.length:=by rw [y1,List.length_append]
 rcases rest with _ | ⟨i,rest⟩
 ·simp only [List.length_nil] at y3
  simp only [pickF,preO_some,List.append_nil] at y2
  have c1 : ¬ (pre.length : Int) < (l.length : Int):=by omega
  unfold pl556_0
  refine Ud (J2 c1 y2) ?_
  simp [pf556,y2]
 ·simp only [List.length_cons] at y3
  have hg : l[pre.length]? = some i:=by rw [y1]; simp
  obtain ⟨hlt,hge⟩:=List.getElem?_eq_some_iff.1 hg
  have c1 : (pre.length : Int) < (l.length : Int):=by omega
  have hw:=Wi ((pre.length : Int) + 1)
  have hw2:=Wi ((d.length : Int) - 1)
  have hq : (a.length + 1) * 32 ≤ 70368744177664:=by omega
  unfold pl556_0
  by_cases q : 0 ≤ i ∧ i < (d.length : Int)
  ·obtain ⟨m,rfl⟩:=Int.eq_ofNat_of_zero_le q.1
   have hm : m < d.length:=by omega
   obtain ⟨⟨dT,dN,dS⟩,hv⟩ : ∃ v,d[m]? = some v:=⟨_,List.getElem?_eq_getElem hm⟩
   have hve:=(List.getElem?_eq_some_iff.1 hv).2
   rw [pickF_yes hv] at y2
   have p1 : ¬ (d.length : Int) ≤ (m : Int):=by omega
   have p2 : (m : Int) ≤ (d.length : Int) - 1:=by omega
   have p3 : (m : Int) < (d.length : Int):=by omega
   refine Ud (J8 hg hge hlt c1 hw hw2 hq (J6 hm hv hve p1 p2 p3)) ?_
   repeat intro hc
   exact ⟨(pre ++ [(m : Int)],rest,a ++ [⟨dT,dN,dS⟩]),(by simp; try omega),⟨by rw [y1]; simp,y2,by simp; omega⟩,by simp⟩
  ·rw [pickF_no q] at y2
   by_cases q2 : 0 ≤ i
   ·have p1 : (d.length : Int) ≤ i:=by omega
    have p2 : ¬ i ≤ (d.length : Int) - 1:=by omega
    refine Ud (J8 hg hge hlt c1 hw hw2 h (J4 q2 p1 p2 y2)) ?_
    repeat intro hc
    simp [pf556,y2]
   ·have p1 : i < 0:=by omega
    refine Ud (J8 hg hge hlt c1 hw hw2 h (J3 q2 p1 y2)) ?_
    simp [pf556,y2]

@[simp] theorem t543 (k0 k1 : Bool) (d : List XVal) (l : List Int) (h : d.length ≤ 1048576) (h2 : l.length ≤ 1048576) : Gw TT 543 [.one (.ro k0 (.sl 3 (d.map XVal.e))),.one (.ro k1 (.sl 1 (l.map ei)))] = some (odV (pickF d l),[]):=by
 refine Ga pf543 pb543 ?_
 unfold pb543
 refine Ua Oo ?_
 refine wp_loopI (σ:=List Int × List Int × List XVal) (fun s => [(0,AV.v k0 (D.sl 3 (d.map XVal.e)),none),(1,AV.v k1 (D.sl 1 (l.map ei)),none),(6,AV.pl 6 0 [],some (Rt.vir [C.own (D.sl 3 ((s.2.2).map XVal.e))])),(7,AV.v false (di ((s.1.length : Nat) : Int)),none)]) (fun s => l = s.1 ++ s.2.1 ∧ pickF d l = preO s.2.2 (pickF d s.2.1) ∧ s.2.2.length ≤ s.1.length) (fun s => s.2.1.length) ([],l,[]) (by simp) ⟨rfl,by rw [preO_nil],by simp⟩ ?_
 rintro ⟨pre,rest,a⟩ ⟨y1,y2,y4⟩
 simp only at y1 y2 y4
 have y3 : l.length = pre.length + rest.length:=by rw [y1,List.length_append]
 rcases rest with _ | ⟨i,rest⟩
 ·simp only [List.length_nil] at y3
  simp only [pickF,preO_some,List.append_nil] at y2
  have c1 : ¬ (pre.length : Int) < (l.length : Int):=by omega
  unfold pl543_0
  refine Ua (J2 c1 y2) ?_
  simp [pf543,y2]
 ·simp only [List.length_cons] at y3
  have hg : l[pre.length]? = some i:=by rw [y1]; simp
  obtain ⟨hlt,hge⟩:=List.getElem?_eq_some_iff.1 hg
  have c1 : (pre.length : Int) < (l.length : Int):=by omega
  have hw:=Wi ((pre.length : Int) + 1)
  have hw2:=Wi ((d.length : Int) - 1)
  have hq : (a.length + 1) * 32 ≤ 70368744177664:=by omega
  unfold pl543_0
  by_cases q : 0 ≤ i ∧ i < (d.length : Int)
  ·obtain ⟨m,rfl⟩:=Int.eq_ofNat_of_zero_le q.1
   have hm : m < d.length:=by omega
   obtain ⟨⟨dT,dN,dS⟩,hv⟩ : ∃ v,d[m]? = some v:=⟨_,List.getElem?_eq_getElem hm⟩
   have hve:=(List.getElem?_eq_some_iff.1 hv).2
   rw [pickF_yes hv] at y2
   have p1 : ¬ (d.length : Int) ≤ (m : Int):=by omega
   have p2 : (m : Int) ≤ (d.length : Int) - 1:=by omega
   have p3 : (m : Int) < (d.length : Int):=by omega
   refine Ua (J8 hg hge hlt c1 hw hw2 hq (J6 hm hv hve p1 p2 p3)) ?_
   exact ⟨(pre ++ [(m : Int)],rest,a ++ [⟨dT,dN,dS⟩]),(by simp; try omega),⟨by rw [y1]; simp,y2,by simp; omega⟩,by simp⟩
  ·rw [pickF_no q] at y2
   by_cases q2 : 0 ≤ i
   ·have p1 : (d.length : Int) ≤ i:=by omega
    have p2 : ¬ i ≤ (d.length : Int) - 1:=by omega
    refine Ua (J8 hg hge hlt c1 hw hw2 h (J4 q2 p1 p2 y2)) ?_
    simp [pf543,y2]
   ·have p1 : i < 0:=by omega
    refine Ua (J8 hg hge hlt c1 hw hw2 h (J3 q2 p1 y2)) ?_
    simp [pf543,y2]

theorem sortD_map (l : List XVal) : sortD (l.map XVal.e) = (sortV l).map XVal.e:=by
 unfold sortD sortV
 rw [List.map_mergeSort (s:=fun x y => !lessD y x)]
 intro a _ b _
 rfl

theorem valD_map (l : List XVal) : (l.map XVal.e).all valD = true:=by
 rw [List.all_eq_true]
 intro x hx
 obtain ⟨v,_,rfl⟩:=List.mem_map.1 hx
 rfl

@[simp] theorem t595 (k0 : Bool) (l : List XVal) (h : l.length ≤ 1048576) : Gw TT 595 [.one (.own (.sl 3 (l.map XVal.e))),.one (.ro k0 (.fn 596 []))] = some (.tup [],[(0,0,.own (.sl 3 ((sortV l).map XVal.e)))]):=by
 refine Ga pf595 pb595 ?_
 unfold pb595
 have hL : initAL 0 [.one (.own (.sl 3 (l.map XVal.e))),.one (.ro k0 (.fn 596 []))] = [(0,.pl 0 0 [],some (.vir [.own (.sl 3 (l.map XVal.e))])),(1,.v k0 (.fn 596 []),none)]:=by simp
 rw [hL]
 have hlen : (l.map XVal.e).length < 4611686018427387904:=by simp; omega
 refine wp_ext (L':=[(0,.pl 0 0 [],some (.vir [.own (.sl 3 ((sortV l).map XVal.e))])),(1,.v k0 (.fn 596 []),none)]) ?_ ?_ ?_
 ·simp only [sortCalls]
  rw [if_pos ⟨valD_map l,hlen⟩]
  intro c hc
  obtain ⟨x,hx,hc⟩:=List.mem_flatMap.1 hc
  obtain ⟨y,hy,rfl⟩:=List.mem_map.1 hc
  obtain ⟨⟨a,b,s⟩,_,rfl⟩:=List.mem_map.1 hx
  obtain ⟨⟨a',b',s'⟩,_,rfl⟩:=List.mem_map.1 hy
  exact t596 a b s a' b' s'
 ·simp only [sortF,sortD_map]
 ·simp [endQ,finish,pf595,out?,outVs,outUps,upsOf]

theorem insV_at {v : XVal} : ∀ {A B : List XVal},(∀ x ∈ A,ltV x v = true) → insV v (A ++ B) = A ++ insV v B
 | [],B,_ => rfl
 | x :: A,B,h => by
  simp only [List.cons_append,insV]
  rw [if_pos (h x (by simp)),insV_at (fun y hy => h y (by simp [hy]))]

theorem take_mapA {α : Type} (f : α → List D) (A : List α) (L : List (List D)) : List.take A.length (List.map f A ++ L) = List.map f A:=by
 have : A.length = (List.map f A).length:=by simp
 rw [this,List.take_left]
theorem drop_mapA {α : Type} (f : α → List D) (A : List α) (L : List (List D)) : List.drop A.length (List.map f A ++ L) = L:=by
 have : A.length = (List.map f A).length:=by simp
 rw [this,List.drop_left]
theorem take_mapB {α : Type} (f : α → List D) (A B : List α) : List.take (A.length + B.length) (List.map f A ++ List.map f B) = List.map f A ++ List.map f B:=by
 rw [List.take_of_length_le (by simp)]

@[simp] theorem t572 (k0 : Bool) (l : List XVal) (h : l.length ≤ 1048576) : Gw TT 572 [.one (.ro k0 (.sl 3 (l.map XVal.e)))] = some (.one (.own (.sl 3 ((dictF l).map XVal.e))),[]):=by
 refine Ga pf572 pb572 ?_
 unfold pb572
 refine Ua Oo ?_
 refine wp_loopI (σ:=List XVal × List XVal × List XVal) (fun s => [(0,AV.v k0 (D.sl 3 (l.map XVal.e)),none),(3,AV.pl 3 0 [],some (Rt.vir [C.own (D.sl 3 ((s.2.2).map XVal.e))])),(4,AV.v false (di ((s.1.length : Nat) : Int)),none)]) (fun s => l = s.1 ++ s.2.1 ∧ dictF l = dictG s.2.2 s.2.1 ∧ s.2.2.length ≤ s.1.length) (fun s => s.2.1.length) ([],l,[]) (by simp) ⟨rfl,rfl,by simp⟩ ?_
 rintro ⟨pre,rest,o⟩ ⟨y1,y2,y4⟩
 simp only at y1 y2 y4
 have y3 : l.length = pre.length + rest.length:=by rw [y1,List.length_append]
 rcases rest with _ | ⟨⟨dT,dN,dS⟩,rest⟩
 ·simp only [List.length_nil] at y3
  simp only [dictG] at y2
  have c1 : ¬ (pre.length : Int) < (l.length : Int):=by omega
  unfold pl572_1
  refine Ua (J2 c1 y2) ?_
  simp [pf572,y2]
 ·simp only [List.length_cons] at y3
  simp only [dictG] at y2
  have hg : l[pre.length]? = some ⟨dT,dN,dS⟩:=by rw [y1]; simp
  obtain ⟨hlt,hge⟩:=List.getElem?_eq_some_iff.1 hg
  have c1 : (pre.length : Int) < (l.length : Int):=by omega
  have hw:=Wi ((pre.length : Int) + 1)
  have hil:=insV_len ⟨dT,dN,dS⟩ o
  unfold pl572_1
  refine Ua (J5 hg hge hlt c1 hw) ?_
  refine wp_loopI (σ:=List XVal × List XVal) (fun s => [(0,AV.v k0 (D.sl 3 (l.map XVal.e)),none),(3,AV.pl 3 0 [],some (Rt.vir [C.own (D.sl 3 ((o).map XVal.e))])),(4,AV.v false (di ((pre.length : Nat) : Int)),none),(5,AV.v false (di ((s.1.length : Nat) : Int)),none)]) (fun s => o = s.1 ++ s.2 ∧ ∀ x ∈ s.1,ltV x ⟨dT,dN,dS⟩ = true) (fun s => s.2.length) ([],o) (by simp) ⟨rfl,by simp⟩ ?_
  rintro ⟨A,B⟩ ⟨z1,z2⟩
  simp only at z1 z2
  have hins : insV ⟨dT,dN,dS⟩ o = A ++ insV ⟨dT,dN,dS⟩ B:=by rw [z1]; exact insV_at z2
  have hol : o.length = A.length + B.length:=by rw [z1,List.length_append]
  have hq1 : A.length * 32 ≤ 70368744177664:=by omega
  have hq2 : (A.length + 1) * 32 ≤ 70368744177664:=by omega
  have hq3 : (A.length + 1 + B.length) * 32 ≤ 70368744177664:=by omega
  have hfA : flatD (List.map XVal.e A) = true:=flatD_map _ _ (fun x => rfl)
  have hfB : flatD (List.map XVal.e B) = true:=flatD_map _ _ (fun x => rfl)
  rcases B with _ | ⟨⟨bT,bN,bS⟩,B⟩
  ·have c2 : ¬ (A.length : Int) < (o.length : Int):=by simp at hol; omega
   have c3 : (A.length : Int) = (o.length : Int):=by simp at hol; omega
   have hAo : A.length = o.length:=by simp at hol; omega
   have hAe : o = A:=by simpa using z1
   subst hAe
   simp only [insV] at hins
   rw [hins] at y2
   have hTo : List.take o.length (List.map XVal.e o) = List.map XVal.e o:=List.take_of_length_le (by simp)
   have hDo : List.drop o.length (List.map XVal.e o) = []:=List.drop_of_length_le (by simp)
   unfold pl572_0
   refine Ua (J8 c1 hg hge hlt hw hq1 hq2 (J3 hfA hTo hDo)) ?_
   exact ⟨(pre ++ [⟨dT,dN,dS⟩],rest,o ++ [⟨dT,dN,dS⟩]),(by simp; try omega),⟨by rw [y1]; simp,y2,by simp; omega⟩,by simp⟩
  ·have hgb : o[A.length]? = some ⟨bT,bN,bS⟩:=by rw [z1]; simp
   obtain ⟨hltb,hgeb⟩:=List.getElem?_eq_some_iff.1 hgb
   have c2 : (A.length : Int) < (o.length : Int):=by omega
   have c3 : ¬ (A.length : Int) = (o.length : Int):=by omega
   have hwA:=Wi ((A.length : Int) + 1)
   cases hlv : ltVF bT bN bS dT dN dS with
   | true =>
    unfold pl572_0
    refine Ua (J8 c1 hg hge hlt hw c2 hgb (J4 hgeb hltb hwA hlv)) ?_
    all_goals first | exact ⟨(A ++ [⟨bT,bN,bS⟩],B),(by simp; try omega),⟨by rw [z1]; simp,fun x hx => by
      rcases List.mem_append.1 hx with hx | hx
      ·exact z2 x hx
      ·simp at hx; subst hx; exact hlv⟩,by simp⟩ | (exfalso; omega)
   | false =>
    have hlt2 : ¬ ltV ⟨bT,bN,bS⟩ ⟨dT,dN,dS⟩ = true:=by simp only [ltV]; rw [hlv]; simp
    simp only [insV] at hins
    rw [if_neg hlt2] at hins
    cases hv : valEq ⟨bT,bN,bS⟩ ⟨dT,dN,dS⟩ with
    | true =>
     rw [if_pos hv,← z1] at hins
     rw [hins] at y2
     have e:=valEq_iff.1 hv
     simp only [XVal.mk.injEq] at e
     obtain ⟨rfl,rfl,rfl⟩:=e
     unfold pl572_0
     refine Ua (J8 c1 hg hge hlt hw c2 c3 (J4 hgb hgeb hltb hlv)) ?_
     exact ⟨(pre ++ [⟨bT,bN,bS⟩],rest,o),(by simp; try omega),⟨by rw [y1]; simp,y2,by simp; omega⟩,by simp⟩
    | false =>
     rw [if_neg (by rw [hv]; simp)] at hins
     rw [hins] at y2
     have hb : (bT == dT && (bN == dN && bS.toList == dS.toList)) = false:=hv
     have hT : List.take A.length (List.map XVal.e o) = List.map XVal.e A:=by rw [z1,List.map_append]; exact take_mapA _ _ _
     have hD : List.drop A.length (List.map XVal.e o) = List.map XVal.e (⟨bT,bN,bS⟩ :: B):=by rw [z1,List.map_append]; exact drop_mapA _ _ _
     have hTo : List.take o.length (List.map XVal.e o) = List.map XVal.e o:=List.take_of_length_le (by simp)
     have hAo : A.length ≤ o.length:=by omega
     simp only [List.length_cons] at hq3
     unfold pl572_0
     refine Ua (J8 c1 hg hge hlt hw c2 c3 (J8 hgb hgeb hltb hlv hb hT hD (J7 hTo hAo hq1 hq2 hq3 hfA hfB))) ?_
     exact ⟨(pre ++ [⟨dT,dN,dS⟩],rest,A ++ ⟨dT,dN,dS⟩ :: ⟨bT,bN,bS⟩ :: B),(by simp; try omega),⟨by rw [y1]; simp,y2,by simp at *; omega⟩,by simp⟩

theorem take_mapC {α : Type} (f : α → List D) (A : List α) (L : List (List D)) : List.take A.length (List.map f A ++ L) = List.map f A:=by
 have : A.length = (List.map f A).length:=by simp
 rw [this,List.take_left]

theorem get_two {α : Type} (A : List α) (x : α) (B : List α) : (A ++ x :: B)[A.length]? = some x:=by simp

theorem cmp_set (W G : List XVal) (p v : XVal) (r : List XVal) (g : XVal) (G1 : List XVal) (h : G ++ [p] = g :: G1) : (W ++ [p] ++ G ++ [p] ++ v :: r).set (W.length + 1) v = (W ++ [p]) ++ [v] ++ G1 ++ v :: r:=by
 have e : W ++ [p] ++ G ++ [p] ++ v :: r = (W ++ [p]) ++ g :: (G1 ++ v :: r):=by
  rw [show W ++ [p] ++ G ++ [p] ++ v :: r = (W ++ [p]) ++ ((G ++ [p]) ++ v :: r) by simp [List.append_assoc],h]; try rfl
 rw [e]
 have hl : (W ++ [p]).length = W.length + 1:=by simp
 rw [← hl,List.set_append_right _ _ (Nat.le_refl _)]
 simp

@[simp] theorem t597 (l : List XVal) (h : l.length ≤ 1048576) : Gw TT 597 [.one (.own (.sl 3 (l.map XVal.e)))] = some (.one (.own (.sl 3 ((compF l).map XVal.e))),[(0,0,.own .dead)]):=by
 refine Ga pf597 pb597 ?_
 unfold pb597
 by_cases q : l.length < 2
 ·have hcl : compF l = l:=by
   rcases l with _ | ⟨x,l⟩
   ·rfl
   ·rcases l with _ | ⟨y,l⟩
    ·rfl
    ·simp at q; omega
  have q1 : (l.length : Int) < 2:=by omega
  refine Ua (J2 q1 hcl) ?_
  simp [pf597,hcl]
 ·have q1 : ¬ (l.length : Int) < 2:=by omega
  refine Ua q1 ?_
  refine wp_loopI (σ:=List XVal × (XVal × List XVal)) (fun s => [(0,AV.pl 0 0 [],some (Rt.vir [C.own (D.sl 3 (l.map XVal.e))])),(3,AV.v false (di (((s.1.length : Nat) : Int) + 1)),none)]) (fun s => l = s.1 ++ s.2.1 :: s.2.2 ∧ compF l = s.1 ++ compG s.2.1 s.2.2) (fun s => s.2.2.length) ([],(l.headD default,l.tail)) (by simp) (by
   rcases l with _ | ⟨x,l⟩
   ·simp at q
   ·exact ⟨rfl,rfl⟩) ?_
  rintro ⟨P,⟨⟨xT,xN,xS⟩,rest⟩⟩ ⟨y1,y2⟩
  simp only at y1 y2
  have y3 : l.length = P.length + (rest.length + 1):=by rw [y1]; simp
  rcases rest with _ | ⟨⟨dT,dN,dS⟩,rest⟩
  ·simp only [List.length_nil] at y3
   have hcl : compF l = l:=by rw [y2,y1]; try rfl
   have c1 : ¬ (P.length : Int) + 1 < (l.length : Int):=by omega
   unfold pl597_1
   refine Ua (J2 c1 hcl) ?_
   simp [pf597,hcl]
  ·simp only [List.length_cons] at y3
   simp only [compG] at y2
   have c1 : (P.length : Int) + 1 < (l.length : Int):=by omega
   have hg0 : l[P.length]? = some ⟨xT,xN,xS⟩:=by rw [y1]; simp
   obtain ⟨hlt0,hge0⟩:=List.getElem?_eq_some_iff.1 hg0
   have hg1 : l[P.length + 1]? = some ⟨dT,dN,dS⟩:=by rw [y1]; simp
   obtain ⟨hlt1,hge1⟩:=List.getElem?_eq_some_iff.1 hg1
   have hw1:=Wi ((P.length : Int) + 1 + 1)
   have hw0 : IntKind.wrap .i64 (P.length : Int) = (P.length : Int):=wrap_i64 (by omega) (by omega)
   have hn1 : ((P.length : Int) + 1).toNat = P.length + 1:=by omega
   have hn0 : (0 : Int) ≤ (P.length : Int) + 1:=by omega
   have hn2 : (P.length : Int) < (l.length : Int):=by omega
   have hn3 : (P.length : Int) + 1 ≤ (l.length : Int):=by omega
   have hn4 : P.length + 1 ≤ l.length:=by omega
   cases hv : valEq ⟨dT,dN,dS⟩ ⟨xT,xN,xS⟩ with
   | false =>
    rw [if_neg (by rw [hv]; simp)] at y2
    have hb : (dT == xT && (dN == xN && dS.toList == xS.toList)) = false:=hv
    unfold pl597_1
    refine Ua (J8 c1 hg0 hlt0 hge0 hg1 hlt1 hge1 (J7 hw1 hw0 hn1 hn0 hn2 hb @Int.add_sub_cancel)) ?_
    exact ⟨(P ++ [⟨xT,xN,xS⟩],(⟨dT,dN,dS⟩,rest)),(by simp; try omega),⟨by rw [y1]; simp,by rw [y2]; simp⟩,by simp⟩
   | true =>
    rw [if_pos hv] at y2
    have e:=valEq_iff.1 hv
    simp only [XVal.mk.injEq] at e
    obtain ⟨rfl,rfl,rfl⟩:=e
    unfold pl597_1
    refine Ua (J8 c1 hg0 hlt0 hge0 hg1 hlt1 hge1 (J8 hw1 hw0 hn1 hn0 hn2 hn3 hn4 @Int.add_sub_cancel)) ?_
    refine wp_loopI (σ:=List XVal × (List XVal × (XVal × List XVal))) (fun s => [(0,AV.pl 0 0 [],some (Rt.vir [C.own (D.sl 3 ((s.1 ++ [s.2.2.1] ++ s.2.1 ++ [s.2.2.1] ++ s.2.2.2).map XVal.e))])),(3,AV.v false (di (((s.1.length : Nat) : Int) + 1)),none),(4,AV.rg 0 0 [] 3 (P.length + 1) l.length,none),(5,AV.v false (di ((s.1.length + 1 + s.2.1.length + 1 - (P.length + 1) : Nat) : Int)),none)]) (fun s => l.length = (s.1 ++ [s.2.2.1] ++ s.2.1 ++ [s.2.2.1] ++ s.2.2.2).length ∧ P.length ≤ s.1.length ∧ compF l = s.1 ++ compG s.2.2.1 s.2.2.2) (fun s => s.2.2.2.length) (P,([],(⟨dT,dN,dS⟩,rest))) (by simp [y1]; try omega) ⟨by simp [y1],Nat.le_refl _,y2⟩ ?_
    clear hg0 hlt0 hge0 hg1 hlt1 hge1 hv hw1 hn1 hn0
    rintro ⟨W,⟨G,⟨⟨pT,pN,pS⟩,r⟩⟩⟩ ⟨z1,z2,z3⟩
    dsimp only at z1 z2 z3 ⊢
    obtain ⟨M,hM⟩ : ∃ M,M = W ++ [⟨pT,pN,pS⟩] ++ G ++ [⟨pT,pN,pS⟩] ++ r:=⟨_,rfl⟩
    rw [← hM] at z1 ⊢
    have hMl : M.length = W.length + 1 + G.length + 1 + r.length:=by rw [hM]; simp; omega
    obtain ⟨K,hK⟩ : ∃ K,W.length + 1 + G.length + 1 - (P.length + 1) = K + 1:=⟨W.length + G.length - P.length,by omega⟩
    rw [hK]
    have hPK : P.length + 1 + K = W.length + 1 + G.length:=by omega
    have hML : M.length = l.length:=z1.symm
    have m0 : (0 : Int) ≤ (W.length : Int) + 1:=by omega
    have m1 : (W.length : Int) + 1 ≤ (l.length : Int):=by omega
    have m2 : ((W.length : Int) + 1).toNat = W.length + 1:=by omega
    have m3 : W.length + 1 ≤ l.length:=by omega
    have m4 : W.length + 1 < l.length:=by omega
    have m5 : (W.length : Int) + 1 < (l.length : Int):=by omega
    have m6 : ((K : Int) + 1).toNat = K + 1:=by omega
    have m7 : (0 : Int) ≤ (K : Int) + 1:=by omega
    have m8 : IntKind.wrap .i64 (K : Int) = (K : Int):=wrap_i64 (by omega) (by omega)
    have m9:=Wi ((K : Int) + 1 + 1)
    have m10:=Wi ((W.length : Int) + 1 + 1)
    have m11 : P.length + 1 ≤ l.length:=by omega
    have hTM : List.take l.length (List.map XVal.e M) = List.map XVal.e M:=List.take_of_length_le (by simp; omega)
    have hDM : List.drop l.length (List.map XVal.e M) = []:=List.drop_of_length_le (by simp; omega)
    have hTW : List.take (W.length + 1) (List.map XVal.e M) = List.map XVal.e (W ++ [⟨pT,pN,pS⟩]):=by
     rw [hM,List.append_assoc,List.append_assoc,List.map_append]
     have:=take_mapC XVal.e (W ++ [⟨pT,pN,pS⟩]) (List.map XVal.e (G ++ ([⟨pT,pN,pS⟩] ++ r)))
     rw [show (W ++ [(⟨pT,pN,pS⟩ : XVal)]).length = W.length + 1 by simp] at this
     exact this
    rcases r with _ | ⟨⟨vT,vN,vS⟩,r⟩
    ·simp only [List.length_nil,Nat.add_zero] at hMl
     simp only [compG] at z3
     have d1 : ¬ (K : Int) + 1 < ((l.length - (P.length + 1) : Nat) : Int):=by omega
     have d2 : W.length + 1 + (l.length - (W.length + 1)) = l.length:=by omega
     have hfl : flatD (List.drop (W.length + 1) (List.map XVal.e M)) = true:=flatD_drop_map _ _ _ (fun x => rfl)
     have d3 : W.length + (l.length - (W.length + 1) + 1) = l.length:=by omega
     have hlast : List.take (W.length + 1) (List.map XVal.e W ++ [di pT,di pN,.str pS] :: List.replicate (l.length - (W.length + 1)) [di 0,di 0,.str ⟨#[]⟩]) = List.map XVal.e W ++ [[di pT,di pN,.str pS]]:=by
      have:=take_mapC XVal.e (W ++ [⟨pT,pN,pS⟩]) (List.replicate (l.length - (W.length + 1)) [di 0,di 0,.str ⟨#[]⟩])
      rw [show (W ++ [(⟨pT,pN,pS⟩ : XVal)]).length = W.length + 1 by simp] at this
      simpa using this
     unfold pl597_0
     refine Ua (J8 hML hTM hDM hTW m0 m1 m2 (J8 m3 m4 m5 m6 m7 m8 m11 (J4 d1 d2 d3 hfl))) ?_
     simp [pf597,z3,hlast]
    ·simp only [List.length_cons] at hMl
     simp only [compG] at z3
     have d1 : (K : Int) + 1 < ((l.length - (P.length + 1) : Nat) : Int):=by omega
     have hgp : M[P.length + 1 + K]? = some ⟨pT,pN,pS⟩:=by
      rw [hPK,hM,List.append_assoc _ [_] (_ :: r)]
      have:=get_two (W ++ [⟨pT,pN,pS⟩] ++ G) ⟨pT,pN,pS⟩ (⟨vT,vN,vS⟩ :: r)
      rw [show (W ++ [(⟨pT,pN,pS⟩ : XVal)] ++ G).length = W.length + 1 + G.length by simp; omega] at this
      simpa using this
     have hgv : M[P.length + 1 + (K + 1)]? = some ⟨vT,vN,vS⟩:=by
      rw [← Nat.add_assoc,hPK,hM]
      have:=get_two (W ++ [⟨pT,pN,pS⟩] ++ G ++ [⟨pT,pN,pS⟩]) ⟨vT,vN,vS⟩ r
      rw [show (W ++ [(⟨pT,pN,pS⟩ : XVal)] ++ G ++ [(⟨pT,pN,pS⟩ : XVal)]).length = W.length + 1 + G.length + 1 by simp; omega] at this
      exact this
     obtain ⟨hpl,hpe⟩:=List.getElem?_eq_some_iff.1 hgp
     obtain ⟨hvl,hve⟩:=List.getElem?_eq_some_iff.1 hgv
     have hp2 : P.length + 1 + K < l.length:=by omega
     have hv2 : P.length + 1 + (K + 1) < l.length:=by omega
     have k1 : (K : Int) < ((l.length - (P.length + 1) : Nat) : Int):=by omega
     cases hv : valEq ⟨vT,vN,vS⟩ ⟨pT,pN,pS⟩ with
     | true =>
      rw [if_pos hv] at z3
      have e:=valEq_iff.1 hv
      simp only [XVal.mk.injEq] at e
      obtain ⟨rfl,rfl,rfl⟩:=e
      have hM2 : M = W ++ [⟨vT,vN,vS⟩] ++ (G ++ [⟨vT,vN,vS⟩]) ++ [⟨vT,vN,vS⟩] ++ r:=by rw [hM]; simp
      unfold pl597_0
      refine Ua (J8 hML hTM m0 m1 m2 m3 m4 (J8 m5 m6 m7 m8 m9 m11 d1 (J8 hgp hgv hpl hpe hvl hve hp2 (J3 hv2 k1 @Int.add_sub_cancel)))) ?_
      exact ⟨(W,(G ++ [⟨vT,vN,vS⟩],(⟨vT,vN,vS⟩,r))),(by rw [hM2]; simp; try omega),⟨by rw [← hM2]; exact z1,z2,z3⟩,by simp⟩
     | false =>
      rw [if_neg (by rw [hv]; simp)] at z3
      have hb : (vT == pT && (vN == pN && vS.toList == pS.toList)) = false:=hv
      obtain ⟨⟨gT,gN,gS⟩,G1,hG⟩ : ∃ g G1,G ++ [(⟨pT,pN,pS⟩ : XVal)] = g :: G1:=by
       cases G with
       | nil => exact ⟨_,_,rfl⟩
       | cons g G => exact ⟨_,_,rfl⟩
      have hset : (List.map XVal.e M).set (W.length + 1) [di vT,di vN,.str vS] = List.map XVal.e ((W ++ [⟨pT,pN,pS⟩]) ++ [⟨vT,vN,vS⟩] ++ G1 ++ ⟨vT,vN,vS⟩ :: r):=by
       rw [← cmp_set W G ⟨pT,pN,pS⟩ ⟨vT,vN,vS⟩ r ⟨gT,gN,gS⟩ G1 hG,List.map_set,hM]; try rfl
      have hgg : M[W.length + 1]? = some ⟨gT,gN,gS⟩:=by
       rw [hM,show W ++ [(⟨pT,pN,pS⟩ : XVal)] ++ G ++ [⟨pT,pN,pS⟩] ++ ⟨vT,vN,vS⟩ :: r = (W ++ [⟨pT,pN,pS⟩]) ++ ((G ++ [⟨pT,pN,pS⟩]) ++ ⟨vT,vN,vS⟩ :: r) by simp,hG]
       have:=get_two (W ++ [⟨pT,pN,pS⟩]) ⟨gT,gN,gS⟩ (G1 ++ ⟨vT,vN,vS⟩ :: r)
       rw [show (W ++ [(⟨pT,pN,pS⟩ : XVal)]).length = W.length + 1 by simp] at this
       exact this
      obtain ⟨hgl,hge⟩:=List.getElem?_eq_some_iff.1 hgg
      have hG2:=congrArg List.length hG
      simp at hG2
      unfold pl597_0
      refine Ua (J8 hML hTM m0 m1 m2 m3 m4 (J8 m5 m6 m7 m8 m9 m10 m11 (J8 d1 hgp hgv hpl hpe hvl hve (J8 hp2 hv2 k1 hb hset hgg hgl (J2 hge @Int.add_sub_cancel))))) ?_
      exact ⟨(W ++ [⟨pT,pN,pS⟩],(G1,(⟨vT,vN,vS⟩,r))),(by simp; try omega),⟨by simp at *; omega,by simp; omega,by rw [z3]; simp⟩,by simp⟩

@[simp] theorem t584 (k0 : Bool) (l : List XVal) (h : l.length ≤ 1048576) : Gw TT 584 [.one (.ro k0 (.sl 3 (l.map XVal.e)))] = some (.one (.own (.sl 3 ((dictF l).map XVal.e))),[]):=by
 refine Ga pf584 pb584 ?_
 unfold pb584
 have h1 : (sortV l).length ≤ 1048576:=by rw [sortV_len]; exact h
 have h2:=t597 (sortV l) h1
 rw [comp_sort] at h2
 refine Ua (J3 h h1 h2) ?_
 simp [pf584]

theorem inD_mem {v : XVal} : ∀ {d : List XVal} {i : Int},0 ≤ i → v ∈ d → 0 ≤ inD v d i
 | [],i,_,h => by simp at h
 | x :: d,i,hi,h => by
  simp only [inD]
  split
  ·exact hi
  ·rename_i hx
   rcases List.mem_cons.1 h with rfl | h
   ·exact absurd (valEq_iff.2 rfl) hx
   ·exact inD_mem (by omega) h

theorem placesF_all {d : List XVal} : ∀ {l : List XVal},(∀ v ∈ l,v ∈ d) → ∃ p,placesF d l = some p
 | [],_ => ⟨[],rfl⟩
 | v :: l,h => by
  obtain ⟨p,hp⟩:=placesF_all (l:=l) (fun x hx => h x (by simp [hx]))
  refine ⟨inD v d 0 :: p,?_⟩
  have:=inD_mem (i:=0) (by omega) (h v (by simp))
  simp only [placesF]
  rw [if_neg (by omega),hp]

@[simp] theorem t557 (k0 : Bool) (l : List XVal) (h : l.length ≤ 1048576) (hs : XVal.sms l) : Gw TT 557 [.one (.ro k0 (.sl 3 (l.map XVal.e)))] = some (.one (.own (.sl 1 ((encD l).map eb))),[]):=by
 refine Ga pf557 pb557 ?_
 unfold pb557
 by_cases q : typF l = 0
 ·have he : encD l = []:=by simp [encD,q]
  refine Uw (J4 h hs q he) ?_
  simp [pf557,he]
 ·obtain ⟨q1,q2,_,_⟩:=typF_ne q
  have hm : ∀ r ∈ dictF l,r.S.size ≤ 6:=fun r hr => typF_sz q _ (dictF_mem.1 hr)
  have hrl:=dictF_len l
  obtain ⟨p,hp⟩:=placesF_all (d:=dictF l) (l:=l) (fun v hv => dictF_mem.2 hv)
  have hpl:=placesF_len (dictF l) hp
  have hpd : placesD (dictF l) l = p:=by simp [placesD,hp]
  have he : encD l = encN (dictF l).length ++ encVs (dictF l) ++ packF p (widI ((dictF l).length - 1)):=by simp [encD,q,hpd]
  obtain ⟨R,hR⟩ : ∃ R,R = dictF l:=⟨_,rfl⟩
  rw [← hR] at he hm hrl hp
  have hn:=encN_len (R.length : Int)
  have hR2 : R.length ≤ 1048576:=by omega
  have hp2 : p.length ≤ 1048576:=by omega
  have hpk:=packF_len p (widI ((R.length : Int) - 1))
  have hwR:=Wi ((R.length : Int) - 1)
  obtain ⟨pk,hpke⟩ : ∃ pk,pk = packF p (widI ((R.length : Int) - 1)):=⟨_,rfl⟩
  rw [← hpke] at he hpk
  repeat' first|refine Zs ?_|((with_reducible refine Xk fun K k=>?_);simp [h,hs,q,← hR,hR2,hp];refine k _ ?_;clear k K)|refine Xt rfl ?_|refine Xf rfl ?_|(refine We rfl ?_ ?_<;>(intro hc;(try simp at hc);(all_goals first|(exfalso;omega)|skip)))
  refine wp_loopI (σ:=List XVal × List XVal × List Int) (fun s => [(0,AV.v k0 (D.sl 3 (l.map XVal.e)),none),(3,AV.pl 3 0 [],some (Rt.vir [C.own (D.sl 1 ((s.2.2).map eb))])),(4,AV.pl 4 0 [],some (Rt.vir [C.own (D.sl 3 (R.map XVal.e))])),(20,AV.pl 4 0 [],none),(21,AV.v false (di (R.length : Nat)),none),(22,AV.v false (di ((s.1.length : Nat) : Int)),none)]) (fun s => R = s.1 ++ s.2.1 ∧ s.2.2 ++ encVs s.2.1 = encN R.length ++ encVs R ∧ s.2.2.length ≤ 5 + 7 * s.1.length) (fun s => s.2.1.length) ([],R,encN R.length) (by simp) ⟨rfl,rfl,by simp; omega⟩ ?_
  rintro ⟨pre,rest,a⟩ ⟨y1,y2,y4⟩
  simp only at y1 y2 y4
  have y3 : R.length = pre.length + rest.length:=by rw [y1,List.length_append]
  rcases rest with _ | ⟨⟨dT,dN,dS⟩,rest⟩
  ·simp only [List.length_nil] at y3
   simp only [encVs,List.flatMap_nil,List.append_nil] at y2
   have c1 : ¬ (pre.length : Int) < (R.length : Int):=by omega
   have he2 : encD l = a ++ pk:=by rw [he,y2]; try rfl
   have ha : (a.length + pk.length) * 1 ≤ 70368744177664:=by omega
   have ha2 : a.length + pk.length ≤ 70368744177664:=by omega
   unfold pl557_0
   repeat' first|refine Zs ?_|((with_reducible refine Xk fun K k=>?_);simp [c1,hp,hp2,h,hR2,hwR,← hpke,ha,ha2];refine k _ ?_;clear k K)|refine Xt rfl ?_|refine Xf rfl ?_|(refine We rfl ?_ ?_<;>(intro hc;(try simp at hc);(all_goals first|(exfalso;omega)|skip)))
   simp [pf557,he2]
  ·simp only [List.length_cons] at y3
   have hd:=hm ⟨dT,dN,dS⟩ (by rw [y1]; simp)
   simp only at hd
   have hd2 : dS.size ≤ 1048576:=by omega
   have hg : R[pre.length]? = some ⟨dT,dN,dS⟩:=by rw [y1]; simp
   obtain ⟨hlt,hge⟩:=List.getElem?_eq_some_iff.1 hg
   have c1 : (pre.length : Int) < (R.length : Int):=by omega
   have hw:=Wi ((pre.length : Int) + 1)
   have hpv:=putV_len ⟨dT,dN,dS⟩
   have ha : a.length ≤ 1048000:=by omega
   unfold pl557_0
   refine Uw (J7 hg hge hlt c1 hw hd2 ha) ?_
   exact ⟨(pre ++ [⟨dT,dN,dS⟩],rest,a ++ putV ⟨dT,dN,dS⟩),(by simp; try omega),⟨by rw [y1]; simp,by rw [← y2]; simp [encVs],by simp only [List.length_append,List.length_cons,List.length_nil]; omega⟩,by simp⟩

@[simp] theorem t544 (k0 : Bool) (l : List XVal) (h : l.length ≤ 1048576) (hs : XVal.sms l) : Gw TT 544 [.one (.ro k0 (.sl 3 (l.map XVal.e)))] = some (.one (.own (.sl 1 ((encD l).map eb))),[]):=by
 refine Ga pf544 pb544 ?_
 unfold pb544
 by_cases q : typF l = 0
 ·have he : encD l = []:=by simp [encD,q]
  refine Uw (J4 h hs q he) ?_
  simp [pf544,he]
 ·obtain ⟨q1,q2,_,_⟩:=typF_ne q
  have hm : ∀ r ∈ dictF l,r.S.size ≤ 6:=fun r hr => typF_sz q _ (dictF_mem.1 hr)
  have hrl:=dictF_len l
  obtain ⟨p,hp⟩:=placesF_all (d:=dictF l) (l:=l) (fun v hv => dictF_mem.2 hv)
  have hpl:=placesF_len (dictF l) hp
  have hpd : placesD (dictF l) l = p:=by simp [placesD,hp]
  have he : encD l = encN (dictF l).length ++ encVs (dictF l) ++ packF p (widI ((dictF l).length - 1)):=by simp [encD,q,hpd]
  obtain ⟨R,hR⟩ : ∃ R,R = dictF l:=⟨_,rfl⟩
  rw [← hR] at he hm hrl hp
  have hn:=encN_len (R.length : Int)
  have hR2 : R.length ≤ 1048576:=by omega
  have hp2 : p.length ≤ 1048576:=by omega
  have hpk:=packF_len p (widI ((R.length : Int) - 1))
  have hwR:=Wi ((R.length : Int) - 1)
  obtain ⟨pk,hpke⟩ : ∃ pk,pk = packF p (widI ((R.length : Int) - 1)):=⟨_,rfl⟩
  rw [← hpke] at he hpk
  repeat' first|refine Zs ?_|((with_reducible refine Xk fun K k=>?_);simp [h,hs,q,← hR,hR2,hp];refine k _ ?_;clear k K)|refine Xt rfl ?_|refine Xf rfl ?_|(refine We rfl ?_ ?_<;>(intro hc;(try simp at hc);(all_goals first|(exfalso;omega)|skip)))
  refine wp_loopI (σ:=List XVal × List XVal × List Int) (fun s => [(3,AV.pl 3 0 [],some (Rt.vir [C.own (D.sl 3 (R.map XVal.e))])),(4,AV.pl 4 0 [],some (Rt.vir [C.own (D.sl 1 (p.map ei)),C.ro false (.bool true)])),(6,AV.pl 6 0 [],some (Rt.vir [C.own (D.sl 1 ((s.2.2).map eb))])),(7,AV.v false (di ((s.1.length : Nat) : Int)),none)]) (fun s => R = s.1 ++ s.2.1 ∧ s.2.2 ++ encVs s.2.1 = encN R.length ++ encVs R ∧ s.2.2.length ≤ 5 + 7 * s.1.length) (fun s => s.2.1.length) ([],R,encN R.length) (by simp) ⟨rfl,rfl,by simp; omega⟩ ?_
  rintro ⟨pre,rest,a⟩ ⟨y1,y2,y4⟩
  simp only at y1 y2 y4
  have y3 : R.length = pre.length + rest.length:=by rw [y1,List.length_append]
  rcases rest with _ | ⟨⟨dT,dN,dS⟩,rest⟩
  ·simp only [List.length_nil] at y3
   simp only [encVs,List.flatMap_nil,List.append_nil] at y2
   have c1 : ¬ (pre.length : Int) < (R.length : Int):=by omega
   have he2 : encD l = a ++ pk:=by rw [he,y2]; try rfl
   have ha : (a.length + pk.length) * 1 ≤ 70368744177664:=by omega
   have ha2 : a.length + pk.length ≤ 70368744177664:=by omega
   unfold pl544_0
   repeat' first|refine Zs ?_|((with_reducible refine Xk fun K k=>?_);simp [c1,hp,hp2,h,hR2,hwR,← hpke,ha,ha2];refine k _ ?_;clear k K)|refine Xt rfl ?_|refine Xf rfl ?_|(refine We rfl ?_ ?_<;>(intro hc;(try simp at hc);(all_goals first|(exfalso;omega)|skip)))
   simp [pf544,he2]
  ·simp only [List.length_cons] at y3
   have hd:=hm ⟨dT,dN,dS⟩ (by rw [y1]; simp)
   simp only at hd
   have hd2 : dS.size ≤ 1048576:=by omega
   have hg : R[pre.length]? = some ⟨dT,dN,dS⟩:=by rw [y1]; simp
   obtain ⟨hlt,hge⟩:=List.getElem?_eq_some_iff.1 hg
   have c1 : (pre.length : Int) < (R.length : Int):=by omega
   have hw:=Wi ((pre.length : Int) + 1)
   have hpv:=putV_len ⟨dT,dN,dS⟩
   have ha : a.length ≤ 1048000:=by omega
   unfold pl544_0
   refine Uw (J7 hg hge hlt c1 hw hd2 ha) ?_
   exact ⟨(pre ++ [⟨dT,dN,dS⟩],rest,a ++ putV ⟨dT,dN,dS⟩),(by simp; try omega),⟨by rw [y1]; simp,by rw [← y2]; simp [encVs],by simp only [List.length_append,List.length_cons,List.length_nil]; omega⟩,by simp⟩

theorem t527_yes (k0 k1 : Bool) (b : List Int) (k : Int) (l : List XVal) (e : List Int) (h1 : 1 ≤ k) (h2 : k ≤ 64) (h3 : (l.length : Int) = k) (h4 : ((strOf b).toList == (strOf e).toList) = true) :
  Gw TT 527 [.one (.ro k0 (.sl 1 (b.map eb))),vi k,.one (.own (.sl 3 (l.map XVal.e))),.one (.ro k1 (.sl 1 (e.map eb)))] = some (odV (some l),[(2,0,.own .dead)]):=by
 refine Ga pf527 pb527 ?_
 unfold pb527
 refine Ua (J4 h1 h2 h3 h4) ?_
 simp [pf527]

theorem t527_no (k0 k1 : Bool) (b : List Int) (k : Int) (l : List XVal) (e : List Int) (h : ¬ ((1 ≤ k ∧ k ≤ 64) ∧ (l.length : Int) = k ∧ ((strOf b).toList == (strOf e).toList) = true)) :
  Gw TT 527 [.one (.ro k0 (.sl 1 (b.map eb))),vi k,.one (.own (.sl 3 (l.map XVal.e))),.one (.ro k1 (.sl 1 (e.map eb)))] = some (odV none,[(2,0,.own (.sl 3 (l.map XVal.e)))]):=by
 refine Ga pf527 pb527 ?_
 unfold pb527
 by_cases q1 : 1 ≤ k ∧ k ≤ 64
 ·by_cases q2 : (l.length : Int) = k
  ·have q3 : ((strOf b).toList == (strOf e).toList) = false:=by
    cases hh : ((strOf b).toList == (strOf e).toList) with
    | false => rfl
    | true => exact absurd ⟨q1,q2,hh⟩ h
   clear h
   refine Ud (J4 q1.1 q1.2 q2 q3) ?_
   simp [pf527]
  ·clear h
   refine Ud (J3 q1.1 q1.2 q2) ?_
   simp [pf527]
 ·clear h
  refine Ud Oo ?_
  repeat intro hc
  simp [pf527]

/-- What was decoded and agrees is given back. -/
theorem u527 (k0 k1 : Bool) (b : List Int) (k : Int) (l : List XVal) (E : List XVal → List Int) (hb : bytesOk b) (he : bytesOk (E l)) :
  ∃ us,Gw TT 527 [.one (.ro k0 (.sl 1 (b.map eb))),vi k,.one (.own (.sl 3 (l.map XVal.e))),.one (.ro k1 (.sl 1 ((E l).map eb)))] = some (odV (chkE b k E l),us):=by
 by_cases q : (1 ≤ k ∧ k ≤ 64) ∧ (l.length : Int) = k ∧ b = E l
 ·have h4 : ((strOf b).toList == (strOf (E l)).toList) = true:=by rw [strEq hb he]; simpa using q.2.2
  have e1 : chkE b k E l = some l:=by unfold chkE; rw [if_pos q]
  rw [e1]
  exact ⟨_,t527_yes k0 k1 b k l (E l) q.1.1 q.1.2 q.2.1 h4⟩
 ·have e1 : chkE b k E l = none:=by unfold chkE; rw [if_neg q]
  rw [e1]
  refine ⟨_,t527_no k0 k1 b k l (E l) (fun e => q ⟨e.1,e.2.1,?_⟩)⟩
  have:=e.2.2
  rw [strEq hb he] at this
  simpa using this

theorem getVs_sms {b : List Int} {ty : Int} {k : Nat} {u t : Int} {l : List XVal} (hb : bytesOk b) (h0 : 0 ≤ u) (h1 : u ≤ (b.length : Int)) (h : getVs b ty k u = some (l,t)) : XVal.sms l ∧ l.length = k:=by
 obtain ⟨a1,a2,_⟩:=getVs_can hb h0 h1 h
 refine ⟨fun v hv => ?_,a1⟩
 have:=valOkF_len (typA_mem a2 v hv).1
 simp only [XVal.sm]; omega

theorem decP_chk {b : List Int} {ty k : Int} (hb : bytesOk b) (hk : 1 ≤ k ∧ k ≤ 64) {l : List XVal} {t : Int} (h : getVs b ty k.toNat 0 = some (l,t)) : decP b ty k = chkE b k encP l:=by
 obtain ⟨h1,_,h3⟩:=decP_enc hb hk h
 unfold decP chkE
 rw [if_pos hk,h]
 simp only
 by_cases e : t = (b.length : Int)
 ·rw [if_pos e,if_pos ⟨hk,h1,h3.2 e⟩]
 ·rw [if_neg e,if_neg (fun q => e (h3.1 q.2.2))]

theorem chkE_nil {b : List Int} {k : Int} {E : List XVal → List Int} : chkE b k E [] = none:=by
 unfold chkE; rw [if_neg (fun q => by have:=q.2.1; simp at this; omega)]

@[simp] theorem t522 (k0 : Bool) (b : List Int) (ty k : Int) (h : b.length ≤ 1048576) (hb : bytesOk b) : Gw TT 522 [.one (.ro k0 (.sl 1 (b.map eb))),vi ty,vi k] = some (odV (decP b ty k),[]):=by
 refine Ga pf522 pb522 ?_
 unfold pb522
 by_cases q : 1 ≤ k ∧ k ≤ 64
 ·have q0 : 0 ≤ k:=by omega
  have hg:=t549 k0 b 0 ty k h hb q0 q.2
  cases hv : getVs b ty k.toNat 0 with
  | none =>
   have hd : decP b ty k = none:=by unfold decP; rw [if_pos q,hv]
   rw [hv] at hg
   obtain ⟨us,hu⟩:=u527 k0 true b k [] encP hb (encP_ok [])
   have he:=t550 true [] (by simp) (fun v hv => by simp at hv)
   have hn : encP [] = []:=rfl
   rw [chkE_nil] at hu
   simp only [hn,List.map_nil] at hu he
   refine Uw (J6 q.1 q.2 hg he hu hd) ?_
   simp [pf522,hd]
  | some w =>
   obtain ⟨l,t⟩:=w
   rw [hv] at hg
   obtain ⟨hs,hl⟩:=getVs_sms hb (Int.le_refl _) (by omega) hv
   have hl2 : l.length ≤ 1048576:=by omega
   obtain ⟨us,hu⟩:=u527 k0 true b k l encP hb (encP_ok l)
   rw [decP_chk hb q hv]
   cases hc : chkE b k encP l with
   | none =>
    rw [hc] at hu
    refine Uw (J6 q.1 q.2 hg hs hl2 hu) ?_
    simp [pf522]
   | some l' =>
    rw [hc] at hu
    refine Uw (J6 q.1 q.2 hg hs hl2 hu) ?_
    simp [pf522]
 ·have hd : decP b ty k = none:=by unfold decP; rw [if_neg q]
  refine Uw hd ?_
  repeat intro hc
  simp [pf522,hd]

@[simp] theorem t523 (k0 : Bool) (b : List Int) (ty k : Int) (h : b.length ≤ 1048576) (hb : bytesOk b) : Gw TT 523 [.one (.ro k0 (.sl 1 (b.map eb))),vi ty,vi k] = some (odV (decR b ty k),[]):=by
 refine Ga pf523 pb523 ?_
 unfold pb523
 cases hg : gN b 0 with
 | none =>
  have hdr : decR b ty k = none:=by unfold decR; rw [hg]
  refine Uw (J4 h hb hg hdr) ?_
  simp [pf523,hdr]
 | some q =>
  obtain ⟨n,u⟩:=q
  by_cases q1 : 1 ≤ n ∧ n ≤ 64
  ·obtain ⟨m,rfl⟩:=Int.eq_ofNat_of_zero_le (show 0 ≤ n by omega)
   have q2 : (1 : Int) ≤ (m : Int):=q1.1
   have q3 : (m : Int) ≤ 64:=q1.2
   have hdr : ∀ {r : List XRun} {t : Int},getRs b ty m u = some (r,t) → decR b ty k = chkE b k encR (spreadF r):=fun {r t} hr => by
    unfold decR; rw [hg]; simp only; rw [if_pos q1,show ((m : Int)).toNat = m by omega,hr]
   have hdn : getRs b ty m u = none → decR b ty k = none:=fun hr => by
    unfold decR; rw [hg]; simp only; rw [if_pos q1,show ((m : Int)).toNat = m by omega,hr]
   refine Uw (J5 h hb hg q2 q3) ?_
   refine wp_loopI (σ:=List XRun × (Nat × Int)) (fun s => [(0,AV.v k0 (D.sl 1 (b.map eb)),none),(1,AV.v false (di ty),none),(2,AV.v false (di k),none),(8,AV.v false (di (m : Nat)),none),(9,AV.v false (di s.2.2),none),(11,AV.pl 11 0 [],some (Rt.vir [C.own (D.sl 4 (s.1.map XRun.e))])),(12,AV.v false (di (s.1.length : Nat)),none)]) (fun s => s.1.length + s.2.1 = m ∧ getRs b ty m u = preL s.1 (getRs b ty s.2.1 s.2.2)) (fun s => s.2.1) ([],(m,u)) (by simp) ⟨by simp,by rw [preL_nil]⟩ ?_
   rintro ⟨a,⟨i,v⟩⟩ ⟨y1,y2⟩
   simp only at y1 y2
   have hq : (a.length + 1) * 40 ≤ 70368744177664:=by omega
   cases i with
   | zero =>
    have c1 : ¬ (a.length : Int) < (m : Int):=by omega
    simp only [getRs,preL_some,List.append_nil] at y2
    have hd:=hdr y2
    have hS:=spreadF_sms (getRs_sz hb y2)
    have hSl:=spreadF_len a
    obtain ⟨S,hSe⟩ : ∃ S,S = spreadF a:=⟨_,rfl⟩
    rw [← hSe] at hd hS hSl
    have hS2 : S.length ≤ 1048576:=by omega
    have ha : a.length ≤ 1048576:=by omega
    obtain ⟨us,hu⟩:=u527 k0 true b k S encR hb (encR_ok S)
    rw [hd]
    unfold pl523_0
    cases hc : chkE b k encR S with
    | none =>
     rw [hc] at hu
     repeat' first|refine Zs ?_|((with_reducible refine Xk fun K k=>?_);simp [c1,ha,← hSe,hS,hS2,hu];refine k _ ?_;clear k K)|refine Xt rfl ?_|refine Xf rfl ?_|(refine We rfl ?_ ?_<;>(intro hc;(try simp at hc);(all_goals first|(exfalso;omega)|skip)))
     simp [pf523]
    | some l' =>
     rw [hc] at hu
     repeat' first|refine Zs ?_|((with_reducible refine Xk fun K k=>?_);simp [c1,ha,← hSe,hS,hS2,hu];refine k _ ?_;clear k K)|refine Xt rfl ?_|refine Xf rfl ?_|(refine We rfl ?_ ?_<;>(intro hc;(try simp at hc);(all_goals first|(exfalso;omega)|skip)))
     simp [pf523]
   | succ i =>
    have c1 : (a.length : Int) < (m : Int):=by omega
    have hw:=Wi ((a.length : Int) + 1)
    cases hv : gN b v with
    | none =>
     rw [getRs_none (getR_none1 hv)] at y2
     have hd2:=hdn y2
     unfold pl523_0
     refine Uw (J6 c1 hw h hb hv hd2) ?_
     simp [pf523,hd2]
    | some q =>
     obtain ⟨c,t1⟩:=q
     have hr1:=getR_some1 (ty:=ty) hv
     cases hv2 : getV b t1 ty with
     | none =>
      rw [hv2] at hr1
      rw [getRs_none hr1] at y2
      have hd2:=hdn y2
      unfold pl523_0
      refine Uw (J7 c1 hw h hb hv hv2 hd2) ?_
      simp [pf523,hd2]
     | some q =>
      obtain ⟨⟨dT,dN,dS⟩,t⟩:=q
      rw [hv2] at hr1
      rw [getRs_some hr1] at y2
      unfold pl523_0
      refine Uw (J7 c1 hw h hb hv hv2 hq) ?_
      exact ⟨(a ++ [⟨⟨dT,dN,dS⟩,c⟩],(i,t)),(by simp; try omega),⟨by simp; omega,y2⟩,by simp⟩
  ·have hd2 : decR b ty k = none:=by
    unfold decR; rw [hg]; simp only
    rw [if_neg q1]
   refine Uw (J4 h hb hg hd2) ?_
   repeat intro hc
   simp [pf523,hd2]

theorem decDn_out {m : Int} {b : List Int} {ty k : Int} (hk : ¬ (1 ≤ k ∧ k ≤ 64)) : decDn m b ty k = none:=by
 unfold decDn
 split
 ·split
  ·split
   ·split
    ·split
     ·unfold chkE; rw [if_neg (fun e => hk e.1)]
     ·rfl
    ·rfl
   ·rfl
  ·rfl
 ·rfl

theorem decD_64 (b : List Int) (ty k : Int) : decD b ty k = decDn 64 b ty k:=by
 by_cases hk : 1 ≤ k ∧ k ≤ 64
 ·exact (decD_eq b ty k hk).symm
 ·unfold decD; rw [decDn_out hk,decDn_out hk]

theorem unpF_len {b : List Int} {w k : Int} {p : List Int} (h : unpF b w k = some p) : (p.length : Int) = k:=by
 unfold unpF at h
 split at h
 ·rename_i hh
  split at h
  ·simp at h; subst h
   rw [unpRows_len]; omega
  ·cases h
 ·cases h

theorem decDn_run {m : Int} {b : List Int} {ty k n u : Int} (hg : gN b 0 = some (n,u)) (hn : 1 ≤ n ∧ n ≤ m) : decDn m b ty k = match getVs b ty n.toNat u with
  | some (d,t) => (match unpF (b.drop t.toNat) (widI (n - 1)) k with
   | some p => (match pickF d p with
    | some l => chkE b k encD l
    | none => none)
   | none => none)
  | none => none:=by
 unfold decDn
 rw [hg]
 simp only
 rw [if_pos hn]
 rfl

theorem pickF_mem {d : List XVal} : ∀ {l : List Int} {r : List XVal},pickF d l = some r → ∀ v ∈ r,v ∈ d
 | [],r,h,v,hv => by simp [pickF] at h; subst h; simp at hv
 | i :: l,r,h,v,hv => by
  simp only [pickF] at h
  split at h
  ·split at h
   ·rename_i x hx
    split at h
    ·rename_i q hq
     simp at h; subst h
     rcases List.mem_cons.1 hv with rfl | hv
     ·exact List.mem_of_getElem? hx
     ·exact pickF_mem hq v hv
    ·cases h
   ·cases h
  ·cases h

theorem drop_takeB (b : List Int) (n : Nat) : List.drop n (List.take b.length (List.map eb b)) = List.map eb (b.drop n):=by
 rw [List.take_of_length_le (by simp),List.map_drop]

@[simp] theorem t516 (k0 : Bool) (b : List Int) (ty k : Int) (h : b.length ≤ 1048576) (hb : bytesOk b) : Gw TT 516 [.one (.ro k0 (.sl 1 (b.map eb))),vi ty,vi k] = some (odV (decD b ty k),[]):=by
 refine Ga pf516 pb516 ?_
 unfold pb516
 by_cases q4 : 1 ≤ k ∧ k ≤ 64
 ·cases hg : gN b 0 with
  | none =>
   have hd : decD b ty k = none:=by unfold decD decDn; rw [hg]
   refine Ud (J4 h hb hg hd) ?_
   simp [pf516,hd]
  | some q =>
   obtain ⟨n,u⟩:=q
   by_cases q1 : 1 ≤ n ∧ n ≤ k
   ·obtain ⟨m,rfl⟩:=Int.eq_ofNat_of_zero_le (show 0 ≤ n by omega)
    have q2 : (1 : Int) ≤ (m : Int):=q1.1
    have q3 : (m : Int) ≤ k:=q1.2
    obtain ⟨_,_,hu1,hu2,_⟩:=gN_can hb hg
    have hdr:=decDn_run (m:=k) (ty:=ty) (k:=k) hg q1
    change decD b ty k = _ at hdr
    rw [show ((m : Int)).toNat = m by omega] at hdr
    refine Ud (J7 h hb hg q2 q3 q4.1 q4.2) ?_
    refine wp_loopI (σ:=List XVal × (Nat × Int)) (fun s => [(0,AV.v k0 (D.sl 1 (b.map eb)),none),(1,AV.v false (di ty),none),(2,AV.v false (di k),none),(8,AV.pl 8 0 [],some (Rt.vir [C.own (D.sl 3 [])])),(9,AV.v false (di (m : Nat)),none),(10,AV.v false (di s.2.2),none),(12,AV.pl 12 0 [],some (Rt.vir [C.own (D.sl 3 (s.1.map XVal.e))])),(13,AV.v false (di (s.1.length : Nat)),none)]) (fun s => s.1.length + s.2.1 = m ∧ getVs b ty m u = preL s.1 (getVs b ty s.2.1 s.2.2)) (fun s => s.2.1) ([],(m,u)) (by simp) ⟨by simp,by rw [preL_nil]⟩ ?_
    rintro ⟨a,⟨i,v⟩⟩ ⟨y1,y2⟩
    simp only at y1 y2
    have hq : (a.length + 1) * 32 ≤ 70368744177664:=by omega
    cases i with
    | zero =>
     have c1 : ¬ (a.length : Int) < (m : Int):=by omega
     simp only [getVs,preL_some,List.append_nil] at y2
     obtain ⟨hds,hdl⟩:=getVs_sms hb (by omega) (by omega) y2
     obtain ⟨_,_,ht1,ht2,_⟩:=getVs_can hb (by omega) (by omega) y2
     obtain ⟨tn,rfl⟩:=Int.eq_ofNat_of_zero_le (show 0 ≤ v by omega)
     rw [y2] at hdr
     simp only [Int.toNat_natCast] at hdr
     have s1 : (0 : Int) ≤ (tn : Int):=by omega
     have s2 : (tn : Int) ≤ (b.length : Int):=by omega
     have s3 : tn ≤ b.length:=by omega
     have s4:=drop_takeB b tn
     have s5 : (b.drop tn).length ≤ 1048576:=by simp; omega
     have s6:=bytesOk_drop tn hb
     have s7 : b.length - tn ≤ 1048576:=by omega
     have s8:=Wi ((m : Int) - 1)
     obtain ⟨B,hB⟩ : ∃ B,B = b.drop tn:=⟨_,rfl⟩
     rw [← hB] at hdr s4 s5 s6
     have s9 : List.drop tn (List.map eb b) = List.map eb B:=by rw [hB,List.map_drop]
     have da : a.length ≤ 1048576:=by omega
     cases hun : unpF B (widI ((m : Int) - 1)) k with
     | none =>
      rw [hun] at hdr
      simp only at hdr
      unfold pl516_0
      obtain ⟨rr,hr⟩ : ∃ rr,pickF a [] = some rr:=⟨_,rfl⟩
      have hr0 : rr = []:=by simp [pickF] at hr; first | exact hr | exact hr.symm
      subst hr0
      have hpk:=t543 true true a [] da (by simp)
      simp only [List.map_nil,hr,odV_some] at hpk
      refine Ud (J8 c1 s1 s2 s3 s9 s5 s6 (J4 s8 hun hpk hdr)) ?_
      simp [pf516,hdr]
     | some p =>
      have hpl:=unpF_len hun
      rw [hun] at hdr
      simp only at hdr
      have pl2 : p.length ≤ 1048576:=by omega
      cases hpi : pickF a p with
      | none =>
       rw [hpi] at hdr
       simp only at hdr
       unfold pl516_0
       refine Ud (J8 c1 s1 s2 s3 s9 s5 s6 (J6 s8 hun da pl2 hpi hdr)) ?_
       simp [pf516,hdr]
      | some l =>
       rw [hpi] at hdr
       simp only at hdr
       have hll:=pickF_len a hpi
       have hls : XVal.sms l:=fun x hx => hds x (pickF_mem hpi x hx)
       have hl2 : l.length ≤ 1048576:=by omega
       have hlk : (l.length : Int) = k:=by omega
       have hse:=strEq (encD_ok l) hb
       unfold pl516_0
       by_cases e3 : encD l = b
       ·have e4 : ((strOf (encD l)).toList == (strOf b).toList) = true:=by rw [hse]; simpa using e3
        have hd2 : decD b ty k = some l:=by rw [hdr]; unfold chkE; rw [if_pos ⟨q4,hlk,e3.symm⟩]
        refine Ud (J8 c1 s1 s2 s3 s9 s5 s6 (J8 s8 hun da pl2 hpi hls hl2 (J2 e4 hd2))) ?_
        simp [pf516,hd2]
       ·have e4 : ((strOf (encD l)).toList == (strOf b).toList) = false:=by rw [hse]; simpa using e3
        have hd2 : decD b ty k = none:=by rw [hdr]; unfold chkE; rw [if_neg (fun e => e3 e.2.2.symm)]
        refine Ud (J8 c1 s1 s2 s3 s9 s5 s6 (J8 s8 hun da pl2 hpi hls hl2 (J2 e4 hd2))) ?_
        simp [pf516,hd2]
    | succ i =>
     have c1 : (a.length : Int) < (m : Int):=by omega
     have hw:=Wi ((a.length : Int) + 1)
     cases hv : getV b v ty with
     | none =>
      rw [getVs_none hv] at y2
      rw [y2] at hdr
      simp only at hdr
      unfold pl516_0
      refine Ud (J6 c1 hw h hb hv hdr) ?_
      simp [pf516,hdr]
     | some q =>
      obtain ⟨⟨dT,dN,dS⟩,t⟩:=q
      rw [getVs_some hv] at y2
      unfold pl516_0
      refine Ud (J6 c1 hw h hb hv hq) ?_
      exact ⟨(a ++ [⟨dT,dN,dS⟩],(i,t)),(by simp; try omega),⟨by simp; omega,y2⟩,by simp⟩
   ·have hd : decD b ty k = none:=by unfold decD decDn; rw [hg]; simp only; rw [if_neg q1]
    refine Ud (J6 h hb hg q4.1 q4.2 hd) ?_
    repeat intro hc
    simp [pf516,hd]
 ·have hd : decD b ty k = none:=by unfold decD; exact decDn_out q4
  cases hg : gN b 0 with
  | none =>
   refine Ud (J4 h hb hg hd) ?_
   simp [pf516,hd]
  | some q =>
   obtain ⟨n,u⟩:=q
   refine Ud (J4 h hb hg hd) ?_
   repeat intro hc
   simp [pf516,hd]

@[simp] theorem t524 (k0 : Bool) (b : List Int) (ty k : Int) (h : b.length ≤ 1048576) (hb : bytesOk b) : Gw TT 524 [.one (.ro k0 (.sl 1 (b.map eb))),vi ty,vi k] = some (odV (decD b ty k),[]):=by
 refine Ga pf524 pb524 ?_
 unfold pb524
 rw [decD_64]
 cases hg : gN b 0 with
 | none =>
  have hd : decDn 64 b ty k = none:=by unfold decDn; rw [hg]
  refine Uw (J4 h hb hg hd) ?_
  simp [pf524,hd]
 | some q =>
  obtain ⟨n,u⟩:=q
  by_cases q1 : 1 ≤ n ∧ n ≤ 64
  ·obtain ⟨m,rfl⟩:=Int.eq_ofNat_of_zero_le (show 0 ≤ n by omega)
   have q2 : (1 : Int) ≤ (m : Int):=q1.1
   have q3 : (m : Int) ≤ 64:=q1.2
   have q5 : (0 : Int) ≤ (m : Int):=by omega
   obtain ⟨_,_,hu1,hu2,_⟩:=gN_can hb hg
   have hdr:=decDn_run (m:=64) (ty:=ty) (k:=k) hg q1
   rw [show ((m : Int)).toNat = m by omega] at hdr
   have hgv:=t549 k0 b u ty (m : Int) h hb q5 q3
   rw [show ((m : Int)).toNat = m by omega] at hgv
   cases hy : getVs b ty m u with
   | none =>
    rw [hy] at hgv hdr
    simp only at hdr
    refine Uw (J7 h hb hg q2 q3 hgv hdr) ?_
    simp [pf524,hdr]
   | some w =>
    obtain ⟨a,v⟩:=w
    have y2:=hy
    rw [hy] at hgv
    have y1:=(getVs_sms hb (by omega) (by omega) y2).2
    obtain ⟨hds,hdl⟩:=getVs_sms hb (by omega) (by omega) y2
    obtain ⟨_,_,ht1,ht2,_⟩:=getVs_can hb (by omega) (by omega) y2
    obtain ⟨tn,rfl⟩:=Int.eq_ofNat_of_zero_le (show 0 ≤ v by omega)
    rw [y2] at hdr
    simp only [Int.toNat_natCast] at hdr
    have s1 : (0 : Int) ≤ (tn : Int):=by omega
    have s2 : (tn : Int) ≤ (b.length : Int):=by omega
    have s3 : tn ≤ b.length:=by omega
    have s4:=drop_takeB b tn
    have s5 : (b.drop tn).length ≤ 1048576:=by simp; omega
    have s6:=bytesOk_drop tn hb
    have s7 : b.length - tn ≤ 1048576:=by omega
    have s8:=Wi ((m : Int) - 1)
    obtain ⟨B,hB⟩ : ∃ B,B = b.drop tn:=⟨_,rfl⟩
    rw [← hB] at hdr s4 s5 s6
    have s9 : List.drop tn (List.map eb b) = List.map eb B:=by rw [hB,List.map_drop]
    have da : a.length ≤ 1048576:=by omega
    cases hun : unpF B (widI ((m : Int) - 1)) k with
    | none =>
     rw [hun] at hdr
     simp only at hdr
     refine Uw (J8 h hb hg q2 q3 hgv s1 (J8 s2 s3 s9 s5 s6 s8 hun hdr)) ?_
     simp [pf524,hdr]
    | some p =>
     have hpl:=unpF_len hun
     rw [hun] at hdr
     simp only at hdr
     have hk64 : k ≤ 64:=by
      have:=hun
      unfold unpF at this
      split at this
      ·rename_i hh; exact hh.1.2.2
      ·cases this
     have pl2 : p.length ≤ 1048576:=by omega
     cases hpi : pickF a p with
     | none =>
      rw [hpi] at hdr
      simp only at hdr
      obtain ⟨us,hu⟩:=u527 k0 true b k [] encD hb (encD_ok [])
      have he:=t557 true [] (by simp) (fun v hv => by simp at hv)
      have hn : encD [] = []:=rfl
      rw [chkE_nil] at hu
      simp only [hn,List.map_nil] at hu he
      refine Uw (J8 h hb hg q2 q3 hgv s1 (J8 s2 s3 s9 s5 s6 s8 hun (J6 da pl2 hpi he hu hdr))) ?_
      simp [pf524,hdr]
     | some l =>
      rw [hpi] at hdr
      simp only at hdr
      have hll:=pickF_len a hpi
      have hls : XVal.sms l:=fun x hx => hds x (pickF_mem hpi x hx)
      have hl2 : l.length ≤ 1048576:=by omega
      obtain ⟨us,hu⟩:=u527 k0 true b k l encD hb (encD_ok l)
      rw [hdr]
      cases hc : chkE b k encD l with
      | none =>
       rw [hc] at hu
       refine Uw (J8 h hb hg q2 q3 hgv s1 (J8 s2 s3 s9 s5 s6 s8 hun (J6 da pl2 hpi hls hl2 hu))) ?_
       simp [pf524]
      | some l' =>
       rw [hc] at hu
       refine Uw (J8 h hb hg q2 q3 hgv s1 (J8 s2 s3 s9 s5 s6 s8 hun (J6 da pl2 hpi hls hl2 hu))) ?_
       simp [pf524]
  ·have hd : decDn 64 b ty k = none:=by unfold decDn; rw [hg]; simp only; rw [if_neg q1]
   refine Uw (J4 h hb hg hd) ?_
   repeat intro hc
   simp [pf524,hd]

@[simp] theorem t589 (k0 : Bool) (l : List XVal) (h : l.length ≤ 1048576) : Gw TT 589 [.one (.ro k0 (.sl 3 (l.map XVal.e)))] = some (vi (baseF l),[]):=by
 refine Ga pf589 pb589 ?_
 unfold pb589
 rcases l with _ | ⟨⟨aT,aN,aS⟩,l0⟩
 ·have hb : baseF [] = 0:=rfl
  refine Ua hb ?_
  simp [pf589,hb]
 ·obtain ⟨l,hl⟩ : ∃ l,l = (⟨aT,aN,aS⟩ : XVal) :: l0:=⟨_,rfl⟩
  have hb : baseF l = baseG aN l:=by rw [hl]; simp [baseF,baseG]
  rw [← hl]
  have hg0 : l[0]? = some ⟨aT,aN,aS⟩:=by rw [hl]; try rfl
  obtain ⟨hlt0,hge0⟩:=List.getElem?_eq_some_iff.1 hg0
  have hn : ¬ (l.length : Int) = 0:=by omega
  have hn2 : l ≠ []:=by rw [hl]; simp
  have hn3 : l.isEmpty = false:=by rw [hl]; try rfl
  have hn4 : ((l.length : Int) == 0) = false:=by simpa using hn2
  refine Ua (J7 hn hn2 hn3 hn4 hg0 hlt0 hge0) ?_
  refine wp_loopI (σ:=List XVal × List XVal × Int) (fun s => [(3,AV.v false (di s.2.2),none),(13,AV.v k0 (D.sl 3 (l.map XVal.e)),none),(14,AV.v false (di (l.length : Nat)),none),(15,AV.v false (di ((s.1.length : Nat) : Int)),none)]) (fun s => l = s.1 ++ s.2.1 ∧ baseF l = baseG s.2.2 s.2.1) (fun s => s.2.1.length) ([],l,aN) (by simp) ⟨rfl,hb⟩ ?_
  rintro ⟨pre,rest,m⟩ ⟨y1,y2⟩
  simp only at y1 y2
  have y3 : l.length = pre.length + rest.length:=by rw [y1,List.length_append]
  rcases rest with _ | ⟨⟨dT,dN,dS⟩,rest⟩
  ·simp only [List.length_nil] at y3
   simp only [baseG] at y2
   have c1 : ¬ (pre.length : Int) < (l.length : Int):=by omega
   unfold pl589_0
   refine Ua (J2 c1 y2) ?_
   simp [pf589,y2]
  ·simp only [List.length_cons] at y3 h
   simp only [baseG] at y2
   have hg : l[pre.length]? = some ⟨dT,dN,dS⟩:=by rw [y1]; simp
   obtain ⟨hlt,hge⟩:=List.getElem?_eq_some_iff.1 hg
   have c1 : (pre.length : Int) < (l.length : Int):=by omega
   have hll : l.length ≤ 1048576:=by rw [hl]; simpa using h
   have hw:=Wi ((pre.length : Int) + 1)
   unfold pl589_0
   refine Ua (J5 hg hge hlt c1 hw) ?_
   exact ⟨(pre ++ [⟨dT,dN,dS⟩],rest,if dN < m then dN else m),(by simp; try omega),⟨by rw [y1]; simp,y2⟩,by simp⟩

@[simp] theorem t577 (k0 : Bool) (l : List XVal) (h : l.length ≤ 1048576) : Gw TT 577 [.one (.ro k0 (.sl 3 (l.map XVal.e)))] = some (vi (baseF l),[]):=by
 refine Ga pf577 pb577 ?_
 unfold pb577
 refine Ua Oo ?_
 refine wp_loopI (σ:=List XVal × List XVal × Int) (fun s => [(0,AV.v k0 (D.sl 3 (l.map XVal.e)),none),(3,AV.v false (di s.2.2),none),(4,AV.v false (di ((s.1.length : Nat) : Int)),none)]) (fun s => l = s.1 ++ s.2.1 ∧ ((s.1 = [] ∧ s.2.2 = 0) ∨ (s.1 ≠ [] ∧ baseF l = baseG s.2.2 s.2.1))) (fun s => s.2.1.length) ([],l,0) (by simp) ⟨rfl,.inl ⟨rfl,rfl⟩⟩ ?_
 rintro ⟨pre,rest,m⟩ ⟨y1,y2⟩
 simp only at y1 y2
 have y3 : l.length = pre.length + rest.length:=by rw [y1,List.length_append]
 rcases rest with _ | ⟨⟨dT,dN,dS⟩,rest⟩
 ·simp only [List.length_nil] at y3
  have c1 : ¬ (pre.length : Int) < (l.length : Int):=by omega
  have hb : baseF l = m:=by
   rcases y2 with ⟨rfl,rfl⟩ | ⟨_,y2⟩
   ·simp at y1; subst y1; rfl
   ·simpa [baseG] using y2
  unfold pl577_0
  refine Ua (J2 c1 hb) ?_
  simp [pf577,hb]
 ·simp only [List.length_cons] at y3
  have hg : l[pre.length]? = some ⟨dT,dN,dS⟩:=by rw [y1]; simp
  obtain ⟨hlt,hge⟩:=List.getElem?_eq_some_iff.1 hg
  have c1 : (pre.length : Int) < (l.length : Int):=by omega
  have hw:=Wi ((pre.length : Int) + 1)
  rcases y2 with ⟨rfl,rfl⟩ | ⟨yn,y2⟩
  ·have hb : baseF l = baseG dN rest:=by rw [y1]; try rfl
   simp only [List.length_nil] at hg hge hlt c1 hw
   unfold pl577_0
   refine Ua (J5 hg hge hlt c1 hw) ?_
   exact ⟨([⟨dT,dN,dS⟩],rest,dN),(by simp; try omega),⟨by rw [y1]; simp,.inr ⟨by simp,hb⟩⟩,by simp⟩
  ·have hpl : 0 < pre.length:=List.length_pos_iff.2 yn
   have c2 : ¬ (pre.length : Int) = 0:=by omega
   simp only [baseG] at y2
   unfold pl577_0
   by_cases e : dN < m
   ·rw [if_pos e] at y2
    refine Ua (J8 hg hge hlt c1 hw c2 yn e) ?_
    exact ⟨(pre ++ [⟨dT,dN,dS⟩],rest,dN),(by simp; try omega),⟨by rw [y1]; simp,.inr ⟨by simp,y2⟩⟩,by simp⟩
   ·rw [if_neg e] at y2
    refine Ua (J8 hg hge hlt c1 hw c2 yn e) ?_
    exact ⟨(pre ++ [⟨dT,dN,dS⟩],rest,m),(by simp; try omega),⟨by rw [y1]; simp,.inr ⟨by simp,y2⟩⟩,by simp⟩

theorem offs_rng {l : List XVal} (h : typF l = 1) : (-1000000000 ≤ baseF l ∧ baseF l ≤ 1000000000) ∧ ∀ v ∈ l,0 ≤ v.N - baseF l ∧ v.N - baseF l ≤ 2000000000:=by
 obtain ⟨h1,h2,h3⟩:=typ1 h
 obtain ⟨h4,v0,hv0,h5⟩:=baseF_le (l:=l) (by omega)
 have h6:=(h3 v0 hv0).2.2
 refine ⟨by omega,fun v hv => ?_⟩
 have:=(h3 v hv).2.2
 have:=h4 v hv
 omega

@[simp] theorem t587 (k0 : Bool) (l : List XVal) (h : l.length ≤ 1048576) (hs : XVal.sms l) : Gw TT 587 [.one (.ro k0 (.sl 3 (l.map XVal.e)))] = some (.one (.own (.sl 1 ((if typF l = 1 then offsF l else []).map ei))),[]):=by
 refine Ga pf587 pb587 ?_
 unfold pb587
 by_cases q : typF l = 1
 ·rw [if_pos q]
  obtain ⟨hb,hr⟩:=offs_rng q
  have q2:=(typ1 q).2.1
  refine Uw (J3 h hs q) ?_
  refine wp_loopI (σ:=List XVal × List XVal × List Int) (fun s => [(0,AV.v k0 (D.sl 3 (l.map XVal.e)),none),(3,AV.pl 3 0 [],some (Rt.vir [C.own (D.sl 1 ((s.2.2).map ei))])),(11,AV.v k0 (D.sl 3 (l.map XVal.e)),none),(12,AV.v false (di (l.length : Nat)),none),(13,AV.v false (di ((s.1.length : Nat) : Int)),none)]) (fun s => l = s.1 ++ s.2.1 ∧ s.2.2 ++ s.2.1.map (fun v => v.N - baseF l) = offsF l ∧ s.2.2.length ≤ s.1.length) (fun s => s.2.1.length) ([],l,[]) (by simp) ⟨rfl,rfl,by simp⟩ ?_
  rintro ⟨pre,rest,a⟩ ⟨y1,y2,y4⟩
  simp only at y1 y2 y4
  have y3 : l.length = pre.length + rest.length:=by rw [y1,List.length_append]
  rcases rest with _ | ⟨⟨dT,dN,dS⟩,rest⟩
  ·simp only [List.length_nil] at y3
   simp only [List.map_nil,List.append_nil] at y2
   have c1 : ¬ (pre.length : Int) < (l.length : Int):=by omega
   unfold pl587_0
   refine Uw c1 ?_
   simp [pf587,y2]
  ·simp only [List.length_cons] at y3
   have hd:=hr ⟨dT,dN,dS⟩ (by rw [y1]; simp)
   simp only at hd
   have hg : l[pre.length]? = some ⟨dT,dN,dS⟩:=by rw [y1]; simp
   obtain ⟨hlt,hge⟩:=List.getElem?_eq_some_iff.1 hg
   have c1 : (pre.length : Int) < (l.length : Int):=by omega
   have hw:=Wi ((pre.length : Int) + 1)
   have hw2:=Wi (dN - baseF l)
   have hq : (a.length + 1) * 8 ≤ 70368744177664:=by omega
   unfold pl587_0
   refine Uw (J8 hg hge hlt c1 hw hw2 hq h) ?_
   exact ⟨(pre ++ [⟨dT,dN,dS⟩],rest,a ++ [dN - baseF l]),(by simp; try omega),⟨by rw [y1]; simp,by rw [← y2]; simp,by simp; omega⟩,by simp⟩
 ·rw [if_neg q]
  refine Uw (J3 h hs q) ?_
  repeat intro hc
  simp [pf587]

@[simp] theorem t575 (k0 : Bool) (l : List XVal) (h : l.length ≤ 1048576) (hs : XVal.sms l) : Gw TT 575 [.one (.ro k0 (.sl 3 (l.map XVal.e)))] = some (.one (.own (.sl 1 ((if typF l = 1 then offsF l else []).map ei))),[]):=by
 refine Ga pf575 pb575 ?_
 unfold pb575
 by_cases q : typF l = 1
 ·rw [if_pos q]
  obtain ⟨hb,hr⟩:=offs_rng q
  have q2:=(typ1 q).2.1
  refine Uw (J3 h hs q) ?_
  refine wp_loopI (σ:=List XVal × List XVal × List Int) (fun s => [(0,AV.v k0 (D.sl 3 (l.map XVal.e)),none),(3,AV.pl 3 0 [],some (Rt.vir [C.own (D.sl 1 ((s.2.2).map ei))])),(4,AV.v false (di (baseF l)),none),(5,AV.v false (di ((s.1.length : Nat) : Int)),none)]) (fun s => l = s.1 ++ s.2.1 ∧ s.2.2 ++ s.2.1.map (fun v => v.N - baseF l) = offsF l ∧ s.2.2.length ≤ s.1.length) (fun s => s.2.1.length) ([],l,[]) (by simp) ⟨rfl,rfl,by simp⟩ ?_
  rintro ⟨pre,rest,a⟩ ⟨y1,y2,y4⟩
  simp only at y1 y2 y4
  have y3 : l.length = pre.length + rest.length:=by rw [y1,List.length_append]
  rcases rest with _ | ⟨⟨dT,dN,dS⟩,rest⟩
  ·simp only [List.length_nil] at y3
   simp only [List.map_nil,List.append_nil] at y2
   have c1 : ¬ (pre.length : Int) < (l.length : Int):=by omega
   unfold pl575_0
   refine Uw c1 ?_
   simp [pf575,y2]
  ·simp only [List.length_cons] at y3
   have hd:=hr ⟨dT,dN,dS⟩ (by rw [y1]; simp)
   simp only at hd
   have hg : l[pre.length]? = some ⟨dT,dN,dS⟩:=by rw [y1]; simp
   obtain ⟨hlt,hge⟩:=List.getElem?_eq_some_iff.1 hg
   have c1 : (pre.length : Int) < (l.length : Int):=by omega
   have hw:=Wi ((pre.length : Int) + 1)
   have hw2:=Wi (dN - baseF l)
   have hq : (a.length + 1) * 8 ≤ 70368744177664:=by omega
   unfold pl575_0
   refine Uw (J8 hg hge hlt c1 hw hw2 hq h) ?_
   exact ⟨(pre ++ [⟨dT,dN,dS⟩],rest,a ++ [dN - baseF l]),(by simp; try omega),⟨by rw [y1]; simp,by rw [← y2]; simp,by simp; omega⟩,by simp⟩
 ·rw [if_neg q]
  refine Uw (J3 h hs q) ?_
  repeat intro hc
  simp [pf575]

@[simp] theorem t559 (k0 : Bool) (l : List XVal) (h : l.length ≤ 1048576) (hs : XVal.sms l) : Gw TT 559 [.one (.ro k0 (.sl 3 (l.map XVal.e)))] = some (.one (.own (.sl 1 ((encF l).map eb))),[]):=by
 refine Ga pf559 pb559 ?_
 unfold pb559
 by_cases q : typF l = 1
 ·obtain ⟨hb,hr⟩:=offs_rng q
  have q2:=(typ1 q).2.1
  have hol : (offsF l).length = l.length:=by simp [offsF]
  have ho2 : (offsF l).length ≤ 1048576:=by omega
  have he : encF l = encN (baseF l) ++ wfF 0 (offsF l) :: packF (offsF l) (wfF 0 (offsF l)):=by simp [encF,q]
  have hwr:=wf_rng (offsF l)
  obtain ⟨w,hw⟩ : ∃ w,w = wfF 0 (offsF l):=⟨_,rfl⟩
  have hpl:=packF_len (offsF l) w
  obtain ⟨p,hp⟩ : ∃ p,p = packF (offsF l) w:=⟨_,rfl⟩
  rw [← hw] at he hwr
  rw [← hp] at he hpl
  have hu : IntKind.wrap .u8 w = w:=wrap_u8 (by omega) (by omega)
  have hn:=encN_len (baseF l)
  have r1 : ((encN (baseF l)).length + 1) * 1 ≤ 70368744177664:=by omega
  have r2 : (encN (baseF l)).length + 1 ≤ 70368744177664:=by omega
  have r3 : (encN (baseF l)).length + 1 + p.length ≤ 70368744177664:=by omega
  repeat' first|refine Zs ?_|((with_reducible refine Xk fun K k=>?_);simp [h,hs,q,ho2,← hw,← hp,hu,r1,r2,r3];refine k _ ?_;clear k K)|refine Xt rfl ?_|refine Xf rfl ?_|(refine We rfl ?_ ?_<;>(intro hc;(try simp at hc);(all_goals first|(exfalso;omega)|skip)))
  simp [pf559,he]
 ·have he : encF l = []:=by simp [encF,q]
  refine Uw (J4 h hs q he) ?_
  repeat intro hc
  simp [pf559,he]

@[simp] theorem t546 (k0 : Bool) (l : List XVal) (h : l.length ≤ 1048576) (hs : XVal.sms l) : Gw TT 546 [.one (.ro k0 (.sl 3 (l.map XVal.e)))] = some (.one (.own (.sl 1 ((encF l).map eb))),[]):=by
 refine Ga pf546 pb546 ?_
 unfold pb546
 by_cases q : typF l = 1
 ·obtain ⟨hb,hr⟩:=offs_rng q
  have q2:=(typ1 q).2.1
  have hol : (offsF l).length = l.length:=by simp [offsF]
  have ho2 : (offsF l).length ≤ 1048576:=by omega
  have he : encF l = encN (baseF l) ++ wfF 0 (offsF l) :: packF (offsF l) (wfF 0 (offsF l)):=by simp [encF,q]
  have hwr:=wf_rng (offsF l)
  obtain ⟨w,hw⟩ : ∃ w,w = wfF 0 (offsF l):=⟨_,rfl⟩
  have hpl:=packF_len (offsF l) w
  obtain ⟨p,hp⟩ : ∃ p,p = packF (offsF l) w:=⟨_,rfl⟩
  rw [← hw] at he hwr
  rw [← hp] at he hpl
  have hu : IntKind.wrap .u8 w = w:=wrap_u8 (by omega) (by omega)
  have hn:=encN_len (baseF l)
  have r1 : ((encN (baseF l)).length + 1) * 1 ≤ 70368744177664:=by omega
  have r2 : (encN (baseF l)).length + 1 ≤ 70368744177664:=by omega
  have r3 : (encN (baseF l)).length + 1 + p.length ≤ 70368744177664:=by omega
  repeat' first|refine Zs ?_|((with_reducible refine Xk fun K k=>?_);simp [h,hs,q,ho2,← hw,← hp,hu,r1,r2,r3];refine k _ ?_;clear k K)|refine Xt rfl ?_|refine Xf rfl ?_|(refine We rfl ?_ ?_<;>(intro hc;(try simp at hc);(all_goals first|(exfalso;omega)|skip)))
  simp [pf546,he]
 ·have he : encF l = []:=by simp [encF,q]
  refine Uw (J4 h hs q he) ?_
  repeat intro hc
  simp [pf546,he]

theorem raiseL_no {base x : Int} {l : List Int} {a : List XVal} (h : ¬ ((0 ≤ x ∧ x ≤ 2000000000) ∧ base + x ≤ 1000000000)) : preO a (raiseL base (x :: l)) = none:=by
  simp only [raiseL]; rw [if_neg h]; try rfl

theorem raiseL_yes {base x : Int} {l : List Int} {a : List XVal} (h : (0 ≤ x ∧ x ≤ 2000000000) ∧ base + x ≤ 1000000000) : preO a (raiseL base (x :: l)) = preO (a ++ [⟨1,base + x,⟨#[]⟩⟩]) (raiseL base l):=by
  simp only [raiseL]; rw [if_pos h]
  cases raiseL base l with
  | none => rfl
  | some p => simp [preO]

theorem raiseL_sms {base : Int} : ∀ {l : List Int} {r : List XVal},raiseL base l = some r → XVal.sms r
  | [],r,h,v,hv => by simp [raiseL] at h; subst h; simp at hv
  | x :: l,r,h,v,hv => by
    simp only [raiseL] at h
    split at h
    · split at h
      · rename_i q hq
        simp at h; subst h
        rcases List.mem_cons.1 hv with rfl | hv
        · simp only [XVal.sm]; decide
        · exact raiseL_sms hq v hv
      · cases h
    · cases h

@[simp] theorem t558 (k1 : Bool) (base : Int) (l : List Int) (h2 : l.length ≤ 1048576) : Gw TT 558 [vi base,.one (.ro k1 (.sl 1 (l.map ei)))] = some (odV (raiseF base l),[]):=by
  refine Ga pf558 pb558 ?_
  unfold pb558
  cases hb : numB base with
  | false =>
    have hr : raiseF base l = none:=by unfold raiseF; rw [hb]; try rfl
    rcases l with _ | ⟨x,l⟩
    · repeat' (first
        | with_reducible (first | refine wp_seq ?_ | refine wp_blk ?_ | refine wp_skip ?_ | refine wp_exit ?_ | refine wp_ret ?_ | refine seqQ_norm ?_ | refine seqQ_ret ?_ | refine seqQ_exit ?_ | refine blkQ_norm ?_ | refine blkQ_ret ?_ | refine blkQ_exit ?_ | refine loopQ_norm ?_ | refine loopQ_exit ?_ | refine loopQ_ret ?_ | refine endQ_ret ?_ | refine endQ_norm ?_ | refine endE_ret ?_ | refine endE_norm ?_ | refine endI_ret ?_ | refine endI_norm ?_)
        | (with_reducible refine wp_loop (c:=pl558_0) ?_
           conv => arg 2; unfold pl558_0)
        | (with_reducible refine wp_regK fun K hK => ?_
           simp[hb,hr]
           repeat' (with_reducible first | refine hK _ ?_ | (refine psel ?_ ?_ <;> (intro hc; (try rw [Decidable.not_not] at hc); first | (exfalso; omega) | (try simp [hc,hb,hr]))))
           all_goals (clear hK; clear K))
        | (with_reducible refine wp_condE ?_
           refine ⟨_,rfl,?_,?_⟩ <;> (intro hc; (try simp at hc); (all_goals first | (exfalso; omega) | skip))))
      simp [pf558,hr]
    · repeat' (first
        | with_reducible (first | refine wp_seq ?_ | refine wp_blk ?_ | refine wp_skip ?_ | refine wp_exit ?_ | refine wp_ret ?_ | refine seqQ_norm ?_ | refine seqQ_ret ?_ | refine seqQ_exit ?_ | refine blkQ_norm ?_ | refine blkQ_ret ?_ | refine blkQ_exit ?_ | refine loopQ_norm ?_ | refine loopQ_exit ?_ | refine loopQ_ret ?_ | refine endQ_ret ?_ | refine endQ_norm ?_ | refine endE_ret ?_ | refine endE_norm ?_ | refine endI_ret ?_ | refine endI_norm ?_)
        | (with_reducible refine wp_loop (c:=pl558_0) ?_
           conv => arg 2; unfold pl558_0)
        | (with_reducible refine wp_regK fun K hK => ?_
           simp[hb,hr]
           repeat' (with_reducible first | refine hK _ ?_ | (refine psel ?_ ?_ <;> (intro hc; (try rw [Decidable.not_not] at hc); first | (exfalso; omega) | (try simp [hc,hb,hr]))))
           all_goals (clear hK; clear K))
        | (with_reducible refine wp_condE ?_
           refine ⟨_,rfl,?_,?_⟩ <;> (intro hc; (try simp at hc); (all_goals first | (exfalso; omega) | skip))))
      simp [pf558,hr]
  | true =>
    have hb2:=hb
    simp only [numB,Bool.and_eq_true,decide_eq_true_eq] at hb2
    have hr : raiseF base l = raiseL base l:=by unfold raiseF; rw [hb]; try rfl
    rw [hr]
    refine Ua hb ?_
    refine wp_loopI (σ:=List Int × List Int × List XVal) (fun s => [(0,AV.v false (di base),none),(6,AV.pl 6 0 [],some (Rt.vir [C.own (D.sl 3 ((s.2.2).map XVal.e))])),(13,AV.v k1 (D.sl 1 (l.map ei)),none),(14,AV.v false (di (l.length : Nat)),none),(15,AV.v false (di ((s.1.length : Nat) : Int)),none)]) (fun s => l = s.1 ++ s.2.1 ∧ raiseL base l = preO s.2.2 (raiseL base s.2.1) ∧ s.2.2.length ≤ s.1.length) (fun s => s.2.1.length) ([],l,[]) (by simp) ⟨rfl,by rw [preO_nil],by simp⟩ ?_
    rintro ⟨pre,rest,a⟩ ⟨y1,y2,y4⟩
    simp only at y1 y2 y4
    have y3 : l.length = pre.length + rest.length:=by rw [y1,List.length_append]
    rcases rest with _ | ⟨x,rest⟩
    · simp only [List.length_nil] at y3
      simp only [raiseL,preO_some,List.append_nil] at y2
      have c1 : ¬ (pre.length : Int) < (l.length : Int):=by omega
      unfold pl558_0
      refine Ua (J3 c1 y2 hb) ?_
      simp [pf558,y2]
    · simp only [List.length_cons] at y3
      have hg : l[pre.length]? = some x:=by rw [y1]; simp
      obtain ⟨hlt,hge⟩:=List.getElem?_eq_some_iff.1 hg
      have c1 : (pre.length : Int) < (l.length : Int):=by omega
      have hw : IntKind.wrap .i64 ((pre.length : Int) + 1) = (pre.length : Int) + 1:=wrap_i64 (by omega) (by omega)
      have hq : (a.length + 1) * 32 ≤ 70368744177664:=by omega
      unfold pl558_0
      by_cases q1 : 0 ≤ x ∧ x ≤ 2000000000
      · have hw2 : IntKind.wrap .i64 (base + x) = base + x:=wrap_i64 (by omega) (by omega)
        by_cases q2 : base + x ≤ 1000000000
        · have q3 : ¬ 1000000000 < base + x:=by omega
          rw [raiseL_yes ⟨q1,q2⟩] at y2
          refine Ua (J8 hg hge hlt c1 hw hw2 hq (J4 q1.1 q1.2 q3 hb)) ?_
          exact ⟨(pre ++ [x],rest,a ++ [⟨1,base + x,⟨#[]⟩⟩]),(by simp; try omega),⟨by rw [y1]; simp,y2,by simp; omega⟩,by simp⟩
        · have q3 : 1000000000 < base + x:=by omega
          rw [raiseL_no (fun e => q2 e.2)] at y2
          refine Ua (J8 hg hge hlt c1 hw hw2 q1.1 (J4 q1.2 q3 y2 hb)) ?_
          simp [pf558,y2]
      · rw [raiseL_no (fun e => q1 e.1)] at y2
        by_cases q2 : 0 ≤ x
        · have q3 : ¬ x ≤ 2000000000:=by omega
          refine Ua (J8 hg hge hlt c1 hw q2 q3 (J2 y2 hb)) ?_
          simp [pf558,y2]
        · refine Ua (J8 hg hge hlt c1 hw q2 y2 hb) ?_
          simp [pf558,y2]

@[simp] theorem t545 (k1 : Bool) (base : Int) (l : List Int) (h2 : l.length ≤ 1048576) : Gw TT 545 [vi base,.one (.ro k1 (.sl 1 (l.map ei)))] = some (odV (raiseF base l),[]):=by
  refine Ga pf545 pb545 ?_
  unfold pb545
  cases hb : numB base with
  | false =>
    have hr : raiseF base l = none:=by unfold raiseF; rw [hb]; try rfl
    rcases l with _ | ⟨x,l⟩
    · repeat' (first
        | with_reducible (first | refine wp_seq ?_ | refine wp_blk ?_ | refine wp_skip ?_ | refine wp_exit ?_ | refine wp_ret ?_ | refine seqQ_norm ?_ | refine seqQ_ret ?_ | refine seqQ_exit ?_ | refine blkQ_norm ?_ | refine blkQ_ret ?_ | refine blkQ_exit ?_ | refine loopQ_norm ?_ | refine loopQ_exit ?_ | refine loopQ_ret ?_ | refine endQ_ret ?_ | refine endQ_norm ?_ | refine endE_ret ?_ | refine endE_norm ?_ | refine endI_ret ?_ | refine endI_norm ?_)
        | (with_reducible refine wp_loop (c:=pl545_0) ?_
           conv => arg 2; unfold pl545_0)
        | (with_reducible refine wp_regK fun K hK => ?_
           simp[hb,hr]
           repeat' (with_reducible first | refine hK _ ?_ | (refine psel ?_ ?_ <;> (intro hc; (try rw [Decidable.not_not] at hc); first | (exfalso; omega) | (try simp [hc,hb,hr]))))
           all_goals (clear hK; clear K))
        | (with_reducible refine wp_condE ?_
           refine ⟨_,rfl,?_,?_⟩ <;> (intro hc; (try simp at hc); (all_goals first | (exfalso; omega) | skip))))
      simp [pf545,hr]
    · repeat' (first
        | with_reducible (first | refine wp_seq ?_ | refine wp_blk ?_ | refine wp_skip ?_ | refine wp_exit ?_ | refine wp_ret ?_ | refine seqQ_norm ?_ | refine seqQ_ret ?_ | refine seqQ_exit ?_ | refine blkQ_norm ?_ | refine blkQ_ret ?_ | refine blkQ_exit ?_ | refine loopQ_norm ?_ | refine loopQ_exit ?_ | refine loopQ_ret ?_ | refine endQ_ret ?_ | refine endQ_norm ?_ | refine endE_ret ?_ | refine endE_norm ?_ | refine endI_ret ?_ | refine endI_norm ?_)
        | (with_reducible refine wp_loop (c:=pl545_0) ?_
           conv => arg 2; unfold pl545_0)
        | (with_reducible refine wp_regK fun K hK => ?_
           simp[hb,hr]
           repeat' (with_reducible first | refine hK _ ?_ | (refine psel ?_ ?_ <;> (intro hc; (try rw [Decidable.not_not] at hc); first | (exfalso; omega) | (try simp [hc,hb,hr]))))
           all_goals (clear hK; clear K))
        | (with_reducible refine wp_condE ?_
           refine ⟨_,rfl,?_,?_⟩ <;> (intro hc; (try simp at hc); (all_goals first | (exfalso; omega) | skip))))
      simp [pf545,hr]
  | true =>
    have hb2:=hb
    simp only [numB,Bool.and_eq_true,decide_eq_true_eq] at hb2
    have hr : raiseF base l = raiseL base l:=by unfold raiseF; rw [hb]; try rfl
    rw [hr]
    refine Ua hb ?_
    refine wp_loopI (σ:=List Int × List Int × List XVal) (fun s => [(0,AV.v false (di base),none),(1,AV.v k1 (D.sl 1 (l.map ei)),none),(6,AV.pl 6 0 [],some (Rt.vir [C.own (D.sl 3 ((s.2.2).map XVal.e))])),(7,AV.v false (di ((s.1.length : Nat) : Int)),none)]) (fun s => l = s.1 ++ s.2.1 ∧ raiseL base l = preO s.2.2 (raiseL base s.2.1) ∧ s.2.2.length ≤ s.1.length) (fun s => s.2.1.length) ([],l,[]) (by simp) ⟨rfl,by rw [preO_nil],by simp⟩ ?_
    rintro ⟨pre,rest,a⟩ ⟨y1,y2,y4⟩
    simp only at y1 y2 y4
    have y3 : l.length = pre.length + rest.length:=by rw [y1,List.length_append]
    rcases rest with _ | ⟨x,rest⟩
    · simp only [List.length_nil] at y3
      simp only [raiseL,preO_some,List.append_nil] at y2
      have c1 : ¬ (pre.length : Int) < (l.length : Int):=by omega
      unfold pl545_0
      refine Ua (J3 c1 y2 hb) ?_
      simp [pf545,y2]
    · simp only [List.length_cons] at y3
      have hg : l[pre.length]? = some x:=by rw [y1]; simp
      obtain ⟨hlt,hge⟩:=List.getElem?_eq_some_iff.1 hg
      have c1 : (pre.length : Int) < (l.length : Int):=by omega
      have hw : IntKind.wrap .i64 ((pre.length : Int) + 1) = (pre.length : Int) + 1:=wrap_i64 (by omega) (by omega)
      have hq : (a.length + 1) * 32 ≤ 70368744177664:=by omega
      unfold pl545_0
      by_cases q1 : 0 ≤ x ∧ x ≤ 2000000000
      · have hw2 : IntKind.wrap .i64 (base + x) = base + x:=wrap_i64 (by omega) (by omega)
        by_cases q2 : base + x ≤ 1000000000
        · have q3 : ¬ 1000000000 < base + x:=by omega
          rw [raiseL_yes ⟨q1,q2⟩] at y2
          refine Ua (J8 hg hge hlt c1 hw hw2 hq (J4 q1.1 q1.2 q3 hb)) ?_
          exact ⟨(pre ++ [x],rest,a ++ [⟨1,base + x,⟨#[]⟩⟩]),(by simp; try omega),⟨by rw [y1]; simp,y2,by simp; omega⟩,by simp⟩
        · have q3 : 1000000000 < base + x:=by omega
          rw [raiseL_no (fun e => q2 e.2)] at y2
          refine Ua (J8 hg hge hlt c1 hw hw2 q1.1 (J4 q1.2 q3 y2 hb)) ?_
          simp [pf545,y2]
      · rw [raiseL_no (fun e => q1 e.1)] at y2
        by_cases q2 : 0 ≤ x
        · have q3 : ¬ x ≤ 2000000000:=by omega
          refine Ua (J8 hg hge hlt c1 hw q2 q3 (J2 y2 hb)) ?_
          simp [pf545,y2]
        · refine Ua (J8 hg hge hlt c1 hw q2 y2 hb) ?_
          simp [pf545,y2]

theorem decF_out {b : List Int} {k : Int} (hk : ¬ (1 ≤ k ∧ k ≤ 64)) : decF b k = none:=by
  unfold decF
  split
  · split
    · split
      · split
        · unfold chkE; rw [if_neg (fun e => hk e.1)]
        · rfl
      · rfl
    · rfl
  · rfl

theorem decF_run {b : List Int} {k n u w : Int} (hg : gN b 0 = some (n,u)) (hw : b[u.toNat]? = some w) : decF b k = match unpF (b.drop (u + 1).toNat) w k with
    | some p => (match raiseF n p with
      | some l => chkE b k encF l
      | none => none)
    | none => none:=by
  unfold decF
  rw [hg]
  simp only
  rw [hw]
  try rfl

theorem raiseF_props {n : Int} {p : List Int} {l : List XVal} (h : raiseF n p = some l) : l.length = p.length ∧ XVal.sms l:=by
  unfold raiseF at h
  split at h
  · exact ⟨raiseL_len n h,raiseL_sms h⟩
  · cases h

@[simp] theorem t525 (k0 : Bool) (b : List Int) (k : Int) (h : b.length ≤ 1048576) (hb : bytesOk b) : Gw TT 525 [.one (.ro k0 (.sl 1 (b.map eb))),vi k] = some (odV (decF b k),[]):=by
  refine Ga pf525 pb525 ?_
  unfold pb525
  cases hg : gN b 0 with
  | none =>
    have hd : decF b k = none:=by unfold decF; rw [hg]
    refine Ua (J4 h hb hg hd) ?_
    simp [pf525,hd]
  | some q =>
    obtain ⟨n,u⟩:=q
    obtain ⟨_,_,hu1,hu2,_⟩:=gN_can hb hg
    obtain ⟨un,rfl⟩:=Int.eq_ofNat_of_zero_le (show 0 ≤ u by omega)
    by_cases gg : (un : Int) < (b.length : Int)
    · skip
      have g1 : un < b.length:=by omega
      have g2 : ¬ (b.length : Int) ≤ (un : Int):=by omega
      have g3 : (un : Int) < (b.length : Int):=by omega
      obtain ⟨w,hw⟩ : ∃ w,b[un]? = some w:=⟨_,List.getElem?_eq_getElem g1⟩
      have hwe:=(List.getElem?_eq_some_iff.1 hw).2
      have hw0:=hb w (List.mem_of_getElem? hw)
      have hwi : IntKind.wrap .i64 w = w:=wrap_i64 (by omega) (by omega)
      have s0 : IntKind.wrap .i64 ((un : Int) + 1) = (un : Int) + 1:=wrap_i64 (by omega) (by omega)
      have s1 : (0 : Int) ≤ (un : Int) + 1:=by omega
      have s2 : (un : Int) + 1 ≤ (b.length : Int):=by omega
      have s3 : un + 1 ≤ b.length:=by omega
      have s4 : ((un : Int) + 1).toNat = un + 1:=by omega
      have hdr:=decF_run (k:=k) hg (by simpa using hw)
      rw [s4] at hdr
      have s5 : (b.drop (un + 1)).length ≤ 1048576:=by simp; omega
      have s6:=bytesOk_drop (un + 1) hb
      obtain ⟨B,hB⟩ : ∃ B,B = b.drop (un + 1):=⟨_,rfl⟩
      rw [← hB] at hdr s5 s6
      have s9 : List.drop (un + 1) (List.map eb b) = List.map eb B:=by rw [hB,List.map_drop]
      cases hun : unpF B w k with
      | none =>
        rw [hun] at hdr
        simp only at hdr
        refine Ua (J8 h hb hg g1 g2 g3 hw (J8 hwe hwi s0 s1 s2 s3 s4 (J5 s5 s6 s9 hun hdr))) ?_
        simp [pf525,hdr]
      | some p =>
        have hpl:=unpF_len hun
        rw [hun] at hdr
        simp only at hdr
        have hk64 : k ≤ 64:=by
          have:=hun
          unfold unpF at this
          split at this
          · rename_i hh; exact hh.1.2.2
          · cases this
        have pl2 : p.length ≤ 1048576:=by omega
        cases hpi : raiseF n p with
        | none =>
          rw [hpi] at hdr
          simp only at hdr
          obtain ⟨us,hu⟩:=u527 k0 true b k [] encF hb (encF_ok [])
          have he:=t559 true [] (by simp) (fun v hv => by simp at hv)
          have hn : encF [] = []:=rfl
          rw [chkE_nil] at hu
          simp only [hn,List.map_nil] at hu he
          refine Ua (J8 h hb hg g1 g2 g3 hw (J8 hwe hwi s0 s1 s2 s3 s4 (J8 s5 s6 s9 hun pl2 hpi he (J2 hu hdr)))) ?_
          simp [pf525,hdr]
        | some l =>
          rw [hpi] at hdr
          simp only at hdr
          obtain ⟨hll,hls⟩:=raiseF_props hpi
          have hl2 : l.length ≤ 1048576:=by omega
          obtain ⟨us,hu⟩:=u527 k0 true b k l encF hb (encF_ok l)
          rw [hdr]
          cases hc : chkE b k encF l with
          | none =>
            rw [hc] at hu
            refine Ua (J8 h hb hg g1 g2 g3 hw (J8 hwe hwi s0 s1 s2 s3 s4 (J8 s5 s6 s9 hun pl2 hpi hls (J2 hl2 hu)))) ?_
            simp [pf525]
          | some l' =>
            rw [hc] at hu
            refine Ua (J8 h hb hg g1 g2 g3 hw (J8 hwe hwi s0 s1 s2 s3 s4 (J8 s5 s6 s9 hun pl2 hpi hls (J2 hl2 hu)))) ?_
            simp [pf525]
    · have hd : decF b k = none:=by
        unfold decF; rw [hg]; simp only
        rw [List.getElem?_eq_none (by omega)]
      have g2 : (b.length : Int) ≤ (un : Int):=by omega
      refine Ua (J5 h hb hg g2 hd) ?_
      simp [pf525,hd]

@[simp] theorem t517 (k0 : Bool) (b : List Int) (k : Int) (h : b.length ≤ 1048576) (hb : bytesOk b) : Gw TT 517 [.one (.ro k0 (.sl 1 (b.map eb))),vi k] = some (odV (decF b k),[]):=by
  refine Ga pf517 pb517 ?_
  unfold pb517
  cases hg : gN b 0 with
  | none =>
    have hd : decF b k = none:=by unfold decF; rw [hg]
    refine Uw (J4 h hb hg hd) ?_
    simp [pf517,hd]
  | some q =>
    obtain ⟨n,u⟩:=q
    obtain ⟨_,_,hu1,hu2,_⟩:=gN_can hb hg
    obtain ⟨un,rfl⟩:=Int.eq_ofNat_of_zero_le (show 0 ≤ u by omega)
    by_cases gg : (un : Int) < (b.length : Int)
    · by_cases q4 : 1 ≤ k ∧ k ≤ 64
      · skip
        have g1 : un < b.length:=by omega
        have g2 : ¬ (b.length : Int) ≤ (un : Int):=by omega
        have g3 : (un : Int) < (b.length : Int):=by omega
        obtain ⟨w,hw⟩ : ∃ w,b[un]? = some w:=⟨_,List.getElem?_eq_getElem g1⟩
        have hwe:=(List.getElem?_eq_some_iff.1 hw).2
        have hw0:=hb w (List.mem_of_getElem? hw)
        have hwi : IntKind.wrap .i64 w = w:=wrap_i64 (by omega) (by omega)
        have s0 : IntKind.wrap .i64 ((un : Int) + 1) = (un : Int) + 1:=wrap_i64 (by omega) (by omega)
        have s1 : (0 : Int) ≤ (un : Int) + 1:=by omega
        have s2 : (un : Int) + 1 ≤ (b.length : Int):=by omega
        have s3 : un + 1 ≤ b.length:=by omega
        have s4 : ((un : Int) + 1).toNat = un + 1:=by omega
        have hdr:=decF_run (k:=k) hg (by simpa using hw)
        rw [s4] at hdr
        have s5 : (b.drop (un + 1)).length ≤ 1048576:=by simp; omega
        have s6:=bytesOk_drop (un + 1) hb
        obtain ⟨B,hB⟩ : ∃ B,B = b.drop (un + 1):=⟨_,rfl⟩
        rw [← hB] at hdr s5 s6
        have s9 : List.drop (un + 1) (List.map eb b) = List.map eb B:=by rw [hB,List.map_drop]
        cases hun : unpF B w k with
        | none =>
          rw [hun] at hdr
          simp only at hdr
          have hrn : ∃ r,Gw TT 545 [vi n,.one (.ro true (.sl 1 []))] = some (odV r,[]):=by
            have:=t545 true n [] (by simp)
            exact ⟨_,by simpa using this⟩
          obtain ⟨r,hrr⟩:=hrn
          cases r with
          | none =>
            refine Uw (J8 h hb hg g1 g2 g3 hw (J8 hwe hwi s0 s1 s2 s3 s4 (J8 s5 s6 s9 q4.1 q4.2 hun hrr hdr))) ?_
            simp [pf517,hdr]
          | some r =>
            refine Uw (J8 h hb hg g1 g2 g3 hw (J8 hwe hwi s0 s1 s2 s3 s4 (J8 s5 s6 s9 q4.1 q4.2 hun hrr hdr))) ?_
            simp [pf517,hdr]
        | some p =>
          have hpl:=unpF_len hun
          rw [hun] at hdr
          simp only at hdr
          have pl2 : p.length ≤ 1048576:=by omega
          cases hpi : raiseF n p with
          | none =>
            rw [hpi] at hdr
            simp only at hdr
            refine Uw (J8 h hb hg g1 g2 g3 hw (J8 hwe hwi s0 s1 s2 s3 s4 (J8 s5 s6 s9 q4.1 q4.2 hun pl2 (J2 hpi hdr)))) ?_
            simp [pf517,hdr]
          | some l =>
            rw [hpi] at hdr
            simp only at hdr
            obtain ⟨hll,hls⟩:=raiseF_props hpi
            have hl2 : l.length ≤ 1048576:=by omega
            have hlk : (l.length : Int) = k:=by omega
            have hse:=strEq (encF_ok l) hb
            by_cases e3 : encF l = b
            · have e4 : ((strOf (encF l)).toList == (strOf b).toList) = true:=by rw [hse]; simpa using e3
              have hd2 : decF b k = some l:=by rw [hdr]; unfold chkE; rw [if_pos ⟨q4,hlk,e3.symm⟩]
              refine Uw (J8 h hb hg g1 g2 g3 hw (J8 hwe hwi s0 s1 s2 s3 s4 (J8 s5 s6 s9 q4.1 q4.2 hun pl2 (J5 hpi hls hl2 e4 hd2)))) ?_
              simp [pf517,hd2]
            · have e4 : ((strOf (encF l)).toList == (strOf b).toList) = false:=by rw [hse]; simpa using e3
              have hd2 : decF b k = none:=by rw [hdr]; unfold chkE; rw [if_neg (fun e => e3 e.2.2.symm)]
              refine Uw (J8 h hb hg g1 g2 g3 hw (J8 hwe hwi s0 s1 s2 s3 s4 (J8 s5 s6 s9 q4.1 q4.2 hun pl2 (J5 hpi hls hl2 e4 hd2)))) ?_
              simp [pf517,hd2]
      · have hd:=decF_out (b:=b) q4
        have g2 : ¬ (b.length : Int) ≤ (un : Int):=by omega
        refine Uw (J5 h hb hg g2 hd) ?_
        repeat intro hc
        simp [pf517,hd]
    · have hd : decF b k = none:=by
        unfold decF; rw [hg]; simp only
        rw [List.getElem?_eq_none (by omega)]
      have g2 : (b.length : Int) ≤ (un : Int):=by omega
      refine Uw (J5 h hb hg g2 hd) ?_
      simp [pf517,hd]

@[simp] theorem t561 (k1 : Bool) (kd : Int) (l : List XVal) (h : l.length ≤ 1048576) (hs : XVal.sms l) : Gw TT 561 [vi kd,.one (.ro k1 (.sl 3 (l.map XVal.e)))] = some (.one (.own (.sl 1 ((encBy kd l).map eb))),[]):=by
 refine Ga pf561 pb561 ?_
 unfold pb561
 by_cases q0 : kd = 0
 ·subst q0
  refine Uw (J2 h hs) ?_
  simp [pf561,encBy]
 ·by_cases q1 : kd = 1
  ·subst q1
   refine Uw (J2 h hs) ?_
   simp [pf561,encBy]
  ·by_cases q2 : kd = 2
   ·subst q2
    refine Uw (J2 h hs) ?_
    simp [pf561,encBy]
   ·by_cases q3 : kd = 3
    ·subst q3
     refine Uw (J2 h hs) ?_
     simp [pf561,encBy]
    ·refine Uw (J4 q0 q1 q2 q3) ?_
     repeat intro hc
     simp [pf561,encBy,q0,q1,q2,q3]

@[simp] theorem t548 (k1 : Bool) (kd : Int) (l : List XVal) (h : l.length ≤ 1048576) (hs : XVal.sms l) : Gw TT 548 [vi kd,.one (.ro k1 (.sl 3 (l.map XVal.e)))] = some (.one (.own (.sl 1 ((encBy kd l).map eb))),[]):=by
 refine Ga pf548 pb548 ?_
 unfold pb548
 by_cases q0 : kd = 0
 ·subst q0
  refine Uw (J2 h hs) ?_
  simp [pf548,encBy]
 ·by_cases q1 : kd = 1
  ·subst q1
   refine Uw (J2 h hs) ?_
   simp [pf548,encBy]
  ·by_cases q2 : kd = 2
   ·subst q2
    refine Uw (J2 h hs) ?_
    simp [pf548,encBy]
   ·by_cases q3 : kd = 3
    ·subst q3
     refine Uw (J2 h hs) ?_
     simp [pf548,encBy]
    ·refine Uw (J4 q0 q1 q2 q3) ?_
     repeat intro hc
     simp [pf548,encBy,q0,q1,q2,q3]

def bK (l : List XVal) : Nat → Int
 | 0 => 0
 | n + 1 => if ((n : Int) + 1 ≠ 3 ∨ typF l = 1) ∧ lenBy ((n : Int) + 1) l < lenBy (bK l n) l then (n : Int) + 1 else bK l n

theorem bK_best {l : List XVal} (h : typF l ≠ 0) : bestF l = bK l 3:=by
 have e1 : bK l 1 = if lenBy 1 l < lenBy 0 l then 1 else 0:=by simp [bK]
 have e2 : bK l 2 = if lenBy 2 l < lenBy (bK l 1) l then 2 else bK l 1:=by
  show (if (((1 : Nat) : Int) + 1 ≠ 3 ∨ typF l = 1) ∧ lenBy (((1 : Nat) : Int) + 1) l < lenBy (bK l 1) l then ((1 : Nat) : Int) + 1 else bK l 1) = _
  simp
 have e3 : bK l 3 = if typF l = 1 ∧ lenBy 3 l < lenBy (bK l 2) l then 3 else bK l 2:=by simp [bK]
 unfold bestF
 simp only [if_neg h]
 rw [e3,e2,e1]

@[simp] theorem t560 (k0 : Bool) (l : List XVal) (h : l.length ≤ 1048576) (hs : XVal.sms l) : Gw TT 560 [.one (.ro k0 (.sl 3 (l.map XVal.e)))] = some (vi (bestF l),[]):=by
 refine Ga pf560 pb560 ?_
 unfold pb560
 by_cases q : typF l = 0
 ·have hb : bestF l = -1:=by unfold bestF; simp [q]
  refine Uw (J4 h hs q hb) ?_
  simp [pf560,hb]
 ·have hb:=bK_best q
  have hty:=(typF_ne q).2.2.2
  refine Uw (J3 h hs q) ?_
  repeat intro hc
  refine wp_loopI (σ:=Nat) (fun s => [(0,AV.v k0 (D.sl 3 (l.map XVal.e)),none),(3,AV.v false (di (typF l)),none),(4,AV.v false (di (bK l s)),none),(5,AV.v false (di ((s : Int) + 1)),none)]) (fun s => s ≤ 3) (fun s => 3 - s) 0 (by simp [bK]) (by omega) ?_
  intro s hs3
  have hw:=Wi ((s : Int) + 1 + 1)
  by_cases e : s = 3
  ·subst e
   unfold pl560_0
   refine Uw hb ?_
   simp [pf560,hb]
  ·have c1 : (s : Int) + 1 ≤ 3:=by omega
   have hbs : bK l (s + 1) = if ((s : Int) + 1 ≠ 3 ∨ typF l = 1) ∧ lenBy ((s : Int) + 1) l < lenBy (bK l s) l then (s : Int) + 1 else bK l s:=rfl
   by_cases e2 : s = 2
   ·subst e2
    simp only [show ((2 : Nat) : Int) + 1 = 3 by rfl,ne_eq,not_true_eq_false,false_or] at hbs
    by_cases t1 : typF l = 1
    ·by_cases lt : lenBy 3 l < lenBy (bK l 2) l
     ·rw [if_pos ⟨t1,lt⟩] at hbs
      simp only [lenBy] at lt
      unfold pl560_0
      refine Uw (J5 h hs @t1 lt @lenBy.eq_1) ?_
      exact ⟨3,(by simp [hbs,t1,lenBy]; try omega),by omega,by simp⟩
     ·rw [if_neg (fun e => lt e.2)] at hbs
      simp only [lenBy] at lt
      unfold pl560_0
      refine Uw (J5 h hs @t1 lt @lenBy.eq_1) ?_
      exact ⟨3,(by simp [hbs,t1,lenBy]; try omega),by omega,by simp⟩
    ·rw [if_neg (fun e => t1 e.1)] at hbs
     unfold pl560_0
     refine Uw (J4 h hs @t1 @lenBy.eq_1) ?_
     repeat intro hc
     exact ⟨3,(by simp [hbs,lenBy]; try omega),by omega,by simp⟩
   ·have n3 : ¬ (s : Int) + 1 = 3:=by omega
    by_cases lt : lenBy ((s : Int) + 1) l < lenBy (bK l s) l
    ·rw [if_pos ⟨.inl n3,lt⟩] at hbs
     simp only [lenBy] at lt
     unfold pl560_0
     refine Uw (J7 h hs c1 n3 hw lt @lenBy.eq_1) ?_
     exact ⟨s + 1,(by simp [hbs,lenBy]; try omega),by omega,by show 3 - (s + 1) < 3 - s; omega⟩
    ·rw [if_neg (fun e => lt e.2)] at hbs
     simp only [lenBy] at lt
     unfold pl560_0
     refine Uw (J7 h hs c1 n3 hw lt @lenBy.eq_1) ?_
     exact ⟨s + 1,(by simp [hbs,lenBy]; try omega),by omega,by show 3 - (s + 1) < 3 - s; omega⟩

@[simp] theorem t547 (k0 : Bool) (l : List XVal) (h : l.length ≤ 1048576) (hs : XVal.sms l) : Gw TT 547 [.one (.ro k0 (.sl 3 (l.map XVal.e)))] = some (vi (bestF l),[]):=by
 refine Ga pf547 pb547 ?_
 unfold pb547
 by_cases q : typF l = 0
 ·have hb : bestF l = -1:=by unfold bestF; simp [q]
  refine Uw (J4 h hs q hb) ?_
  simp [pf547,hb]
 ·have hb:=bK_best q
  have hty:=(typF_ne q).2.2.2
  refine Uw (J3 h hs q) ?_
  repeat intro hc
  refine wp_loopI (σ:=Nat) (fun s => [(0,AV.v k0 (D.sl 3 (l.map XVal.e)),none),(3,AV.v false (di (typF l)),none),(4,AV.v false (di (bK l s)),none),(5,AV.v false (di (lenBy (bK l s) l)),none),(6,AV.v false (di ((s : Int) + 1)),none)]) (fun s => s ≤ 3) (fun s => 3 - s) 0 (by simp [bK,lenBy,encBy]) (by omega) ?_
  intro s hs3
  have hw:=Wi ((s : Int) + 1 + 1)
  by_cases e : s = 3
  ·subst e
   unfold pl547_0
   refine Uw hb ?_
   simp [pf547,hb]
  ·have c1 : (s : Int) + 1 ≤ 3:=by omega
   have hbs : bK l (s + 1) = if ((s : Int) + 1 ≠ 3 ∨ typF l = 1) ∧ lenBy ((s : Int) + 1) l < lenBy (bK l s) l then (s : Int) + 1 else bK l s:=rfl
   by_cases e2 : s = 2
   ·subst e2
    simp only [show ((2 : Nat) : Int) + 1 = 3 by rfl,ne_eq,not_true_eq_false,false_or] at hbs
    by_cases t1 : typF l = 1
    ·by_cases lt : lenBy 3 l < lenBy (bK l 2) l
     ·rw [if_pos ⟨t1,lt⟩] at hbs
      simp only [lenBy] at lt
      unfold pl547_0
      refine Uw (J5 h hs @t1 lt @lenBy.eq_1) ?_
      exact ⟨3,(by simp [hbs,t1,lenBy]; try omega),by omega,by simp⟩
     ·rw [if_neg (fun e => lt e.2)] at hbs
      simp only [lenBy] at lt
      unfold pl547_0
      refine Uw (J5 h hs @t1 lt @lenBy.eq_1) ?_
      exact ⟨3,(by simp [hbs,t1,lenBy]; try omega),by omega,by simp⟩
    ·rw [if_neg (fun e => t1 e.1)] at hbs
     unfold pl547_0
     refine Uw (J4 h hs @t1 @lenBy.eq_1) ?_
     exact ⟨3,(by simp [hbs,lenBy]; try omega),by omega,by simp⟩
   ·have n3 : ¬ (s : Int) + 1 = 3:=by omega
    by_cases lt : lenBy ((s : Int) + 1) l < lenBy (bK l s) l
    ·rw [if_pos ⟨.inl n3,lt⟩] at hbs
     simp only [lenBy] at lt
     unfold pl547_0
     refine Uw (J7 h hs c1 n3 hw lt @lenBy.eq_1) ?_
     exact ⟨s + 1,(by simp [hbs,lenBy]; try omega),by omega,by show 3 - (s + 1) < 3 - s; omega⟩
    ·rw [if_neg (fun e => lt e.2)] at hbs
     simp only [lenBy] at lt
     unfold pl547_0
     refine Uw (J7 h hs c1 n3 hw lt @lenBy.eq_1) ?_
     exact ⟨s + 1,(by simp [hbs,lenBy]; try omega),by omega,by show 3 - (s + 1) < 3 - s; omega⟩

@[simp] theorem t528 (k0 : Bool) (l : List XVal) (h : l.length ≤ 1048576) (hs : XVal.sms l) : Gw TT 528 [.one (.ro k0 (.sl 3 (l.map XVal.e)))] = some (.one (.own (.sl 1 ((encC l).map eb))),[]):=by
 refine Ga pf528 pb528 ?_
 unfold pb528
 have hr:=bestF_rng l
 by_cases q : bestF l < 0
 ·have he : encC l = []:=by simp [encC,q]
  refine Ua (J4 h hs q he) ?_
  simp [pf528,he]
 ·have he : encC l = bestF l :: encBy (bestF l) l:=by simp [encC,q]
  have hu : IntKind.wrap .u8 (bestF l) = bestF l:=wrap_u8 (by omega) (by omega)
  have hl:=encBy_len (bestF l) l
  obtain ⟨E,hE⟩ : ∃ E,E = encBy (bestF l) l:=⟨_,rfl⟩
  rw [← hE] at he hl
  have r1 : (1 + E.length) * 1 ≤ 70368744177664:=by omega
  have r2 : 1 + E.length ≤ 70368744177664:=by omega
  repeat' first|refine Zs ?_|((with_reducible refine Xk fun K k=>?_);simp [h,hs,q,hu,← hE,r1,r2];refine k _ ?_;clear k K)|refine Xt rfl ?_|refine Xf rfl ?_
  simp [pf528,he]

@[simp] theorem t519 (k0 : Bool) (l : List XVal) (h : l.length ≤ 1048576) (hs : XVal.sms l) : Gw TT 519 [.one (.ro k0 (.sl 3 (l.map XVal.e)))] = some (.one (.own (.sl 1 ((encC l).map eb))),[]):=by
 refine Ga pf519 pb519 ?_
 unfold pb519
 have hr:=bestF_rng l
 by_cases q : bestF l < 0
 ·have he : encC l = []:=by simp [encC,q]
  refine Ua (J4 h hs q he) ?_
  simp [pf519,he]
 ·have he : encC l = bestF l :: encBy (bestF l) l:=by simp [encC,q]
  have hu : IntKind.wrap .u8 (bestF l) = bestF l:=wrap_u8 (by omega) (by omega)
  have hl:=encBy_len (bestF l) l
  obtain ⟨E,hE⟩ : ∃ E,E = encBy (bestF l) l:=⟨_,rfl⟩
  rw [← hE] at he hl
  have r1 : (1 + E.length) * 1 ≤ 70368744177664:=by omega
  have r2 : 1 + E.length ≤ 70368744177664:=by omega
  repeat' first|refine Zs ?_|((with_reducible refine Xk fun K k=>?_);simp [h,hs,q,hu,← hE,r1,r2];refine k _ ?_;clear k K)|refine Xt rfl ?_|refine Xf rfl ?_
  simp [pf519,he]

theorem decP_sms {b : List Int} {ty k : Int} {l : List XVal} (hb : bytesOk b) (h : decP b ty k = some l) : XVal.sms l:=by
 unfold decP at h
 split at h
 ·split at h
  ·rename_i hg
   split at h
   ·simp at h; subst h
    exact (getVs_sms hb (Int.le_refl _) (by omega) hg).1
   ·cases h
  ·cases h
 ·cases h

theorem typF_sms {l : List XVal} (h : typF l ≠ 0) : XVal.sms l:=fun v hv => by
 have:=typF_sz h v hv
 simp only [XVal.sm]; omega

theorem encE_ne {E : List XVal → List Int} {b : List Int} {k : Int} {l l' : List XVal} (h0 : typF l = 0 → E l = []) (hb : b ≠ []) (h : chkE b k E l = some l') : typF l' ≠ 0:=by
 obtain ⟨rfl,_,_,he⟩:=chkE_some h
 intro e
 exact hb (he.trans (h0 e))

theorem gN_ne {b : List Int} {n t : Int} (h : gN b 0 = some (n,t)) : b ≠ []:=by
 intro e; subst e
 unfold gN at h
 rw [if_neg (by simp)] at h; cases h

theorem decBy_sms {kd : Int} {b : List Int} {ty k : Int} {l : List XVal} (hb : bytesOk b) (h : decBy kd b ty k = some l) : XVal.sms l:=by
 unfold decBy at h
 split at h
 ·exact decP_sms hb h
 split at h
 ·unfold decR at h
  split at h
  ·rename_i hg
   split at h
   ·split at h
    ·exact typF_sms (encE_ne (fun e => by simp [encR,e]) (gN_ne hg) h)
    ·cases h
   ·cases h
  ·cases h
 split at h
 ·unfold decD decDn at h
  split at h
  ·rename_i hg
   split at h
   ·split at h
    ·split at h
     ·split at h
      ·exact typF_sms (encE_ne (fun e => by simp [encD,e]) (gN_ne hg) h)
      ·cases h
     ·cases h
    ·cases h
   ·cases h
  ·cases h
 split at h
 ·unfold decF at h
  split at h
  ·rename_i hg
   split at h
   ·split at h
    ·split at h
     ·exact typF_sms (encE_ne (fun e => by simp [encF,e]) (gN_ne hg) h)
     ·cases h
    ·cases h
   ·cases h
  ·cases h
 cases h

theorem t496 (k0 : Bool) (b : List Int) (ty k : Int) (h : b.length ≤ 1048576) (hb : bytesOk b) (hty : ty = 1 ∨ ty = 2) (hk : 1 ≤ k ∧ k ≤ 64) : Gw TT 496 [.one (.ro k0 (.sl 1 (b.map eb))),vi ty,vi k] = some (odV (decC b ty k),[]):=by
 refine Ga pf496 pb496 ?_
 unfold pb496
 have hty1 : (1 : Int) ≤ ty:=by omega
 have hty2 : ty ≤ 2:=by omega
 have ht0 : ¬ 0 = ty:=by omega
 have ht1:=t526 true [] (by simp) (fun v hv => by simp at hv)
 have ht2:=t526 false [] (by simp) (fun v hv => by simp at hv)
 simp only [List.map_nil,typF] at ht1 ht2
 rcases b with _ | ⟨c,r⟩
 ·have hD : decC [] ty k = none:=rfl
  refine Uw hD ?_
  simp [pf496,hD]
 ·obtain ⟨b,hbe⟩ : ∃ b,b = c :: r:=⟨_,rfl⟩
  have hdc : decC b ty k = match decBy c r ty k with
   | some l => if typF l = ty ∧ b = encC l then some l else none
   | none => none:=by rw [hbe]; try rfl
  rw [← hbe] at h hb ⊢
  have hg0 : b[0]? = some c:=by rw [hbe]; try rfl
  obtain ⟨hlt0,hge0⟩:=List.getElem?_eq_some_iff.1 hg0
  have hn : ¬ (b.length : Int) = 0:=by omega
  have hn3 : b ≠ []:=by rw [hbe]; simp
  have hn4 : ((b.length : Int) == 0) = false:=by simpa using hn3
  have hr6 : bytesOk r:=fun x hx => hb x (by rw [hbe]; simp [hx])
  have hbl : b.length = r.length + 1:=by rw [hbe]; try rfl
  have hr5 : r.length ≤ 1048576:=by omega
  have hr7:=hb c (by rw [hbe]; simp)
  have s0 : IntKind.wrap .i64 c = c:=wrap_i64 (by omega) (by omega)
  have s1 : (1 : Int) ≤ (b.length : Int):=by omega
  have s2 : 1 ≤ b.length:=by omega
  have s3 : (0 : Int) < (b.length : Int):=by omega
  have s9 : List.drop 1 (List.map eb b) = List.map eb r:=by rw [hbe]; try rfl
  by_cases n0 : c = 0
  ·subst n0
   cases hd : decP r ty k with
   | none =>
    have hD : decC b ty k = none:=by rw [hdc]; simp only [decBy]; simp [hd]
    have hx:=t522 k0 r ty k hr5 hr6
    rw [hd] at hx
    refine Uw (J8 s0 s1 s2 s3 s9 hr5 hr6 (J8 hr7 hg0 hlt0 hge0 hn hn3 hn4 (J4 hx ht0 ht1 hD))) ?_
    repeat intro hc
    simp [pf496,hD]
   | some l =>
    have hby : decBy 0 r ty k = some l:=by simp only [decBy]; simpa using hd
    have hls:=decBy_sms hr6 hby
    have hll:=decBy_len hr6 hby
    have hl2 : l.length ≤ 1048576:=by omega
    have hx:=t522 k0 r ty k hr5 hr6
    rw [hd] at hx
    by_cases e1 : typF l = ty
    ·obtain ⟨us,hu⟩:=u527 k0 true b k l encC hb (encC_ok l)
     have hc : decC b ty k = chkE b k encC l:=by
      rw [hdc,hby]; simp only
      unfold chkE
      by_cases e2 : b = encC l
      ·rw [if_pos ⟨e1,e2⟩,if_pos ⟨hk,hll,e2⟩]
      ·rw [if_neg (fun e => e2 e.2),if_neg (fun e => e2 e.2.2)]
     rw [hc]
     cases hcc : chkE b k encC l with
     | none =>
      rw [hcc] at hu
      refine Uw (J8 s0 s1 s2 s3 s9 hr5 hr6 (J8 hr7 hg0 hlt0 hge0 hn hn3 hn4 (J5 hx hls hl2 e1 hu))) ?_
      simp [pf496]
     | some l' =>
      rw [hcc] at hu
      refine Uw (J8 s0 s1 s2 s3 s9 hr5 hr6 (J8 hr7 hg0 hlt0 hge0 hn hn3 hn4 (J5 hx hls hl2 e1 hu))) ?_
      simp [pf496]
    ·have hD : decC b ty k = none:=by rw [hdc,hby]; simp only; rw [if_neg (fun e => e1 e.1)]
     refine Uw (J8 s0 s1 s2 s3 s9 hr5 hr6 (J8 hr7 hg0 hlt0 hge0 hn hn3 hn4 (J5 hx hls hl2 e1 hD))) ?_
     repeat intro hc
     simp [pf496,hD]
  ·skip
   by_cases n1 : c = 1
   ·subst n1
    cases hd : decR r ty k with
    | none =>
     have hD : decC b ty k = none:=by rw [hdc]; simp only [decBy]; simp [hd]
     have hx:=t523 k0 r ty k hr5 hr6
     rw [hd] at hx
     refine Uw (J8 s0 s1 s2 s3 s9 hr5 hr6 (J8 hr7 hg0 hlt0 hge0 hn hn3 hn4 (J4 hx ht0 ht1 hD))) ?_
     repeat intro hc
     simp [pf496,hD]
    | some l =>
     have hby : decBy 1 r ty k = some l:=by simp only [decBy]; simpa using hd
     have hls:=decBy_sms hr6 hby
     have hll:=decBy_len hr6 hby
     have hl2 : l.length ≤ 1048576:=by omega
     have hx:=t523 k0 r ty k hr5 hr6
     rw [hd] at hx
     by_cases e1 : typF l = ty
     ·obtain ⟨us,hu⟩:=u527 k0 true b k l encC hb (encC_ok l)
      have hc : decC b ty k = chkE b k encC l:=by
       rw [hdc,hby]; simp only
       unfold chkE
       by_cases e2 : b = encC l
       ·rw [if_pos ⟨e1,e2⟩,if_pos ⟨hk,hll,e2⟩]
       ·rw [if_neg (fun e => e2 e.2),if_neg (fun e => e2 e.2.2)]
      rw [hc]
      cases hcc : chkE b k encC l with
      | none =>
       rw [hcc] at hu
       refine Uw (J8 s0 s1 s2 s3 s9 hr5 hr6 (J8 hr7 hg0 hlt0 hge0 hn hn3 hn4 (J5 hx hls hl2 e1 hu))) ?_
       simp [pf496]
      | some l' =>
       rw [hcc] at hu
       refine Uw (J8 s0 s1 s2 s3 s9 hr5 hr6 (J8 hr7 hg0 hlt0 hge0 hn hn3 hn4 (J5 hx hls hl2 e1 hu))) ?_
       simp [pf496]
     ·have hD : decC b ty k = none:=by rw [hdc,hby]; simp only; rw [if_neg (fun e => e1 e.1)]
      refine Uw (J8 s0 s1 s2 s3 s9 hr5 hr6 (J8 hr7 hg0 hlt0 hge0 hn hn3 hn4 (J5 hx hls hl2 e1 hD))) ?_
      repeat intro hc
      simp [pf496,hD]
   ·skip
    by_cases n2 : c = 2
    ·subst n2
     cases hd : decD r ty k with
     | none =>
      have hD : decC b ty k = none:=by rw [hdc]; simp only [decBy]; simp [hd]
      have hx:=t524 k0 r ty k hr5 hr6
      rw [hd] at hx
      refine Uw (J8 s0 s1 s2 s3 s9 hr5 hr6 (J8 hr7 hg0 hlt0 hge0 hn hn3 hn4 (J4 hx ht0 ht1 hD))) ?_
      repeat intro hc
      simp [pf496,hD]
     | some l =>
      have hby : decBy 2 r ty k = some l:=by simp only [decBy]; simpa using hd
      have hls:=decBy_sms hr6 hby
      have hll:=decBy_len hr6 hby
      have hl2 : l.length ≤ 1048576:=by omega
      have hx:=t524 k0 r ty k hr5 hr6
      rw [hd] at hx
      by_cases e1 : typF l = ty
      ·obtain ⟨us,hu⟩:=u527 k0 true b k l encC hb (encC_ok l)
       have hc : decC b ty k = chkE b k encC l:=by
        rw [hdc,hby]; simp only
        unfold chkE
        by_cases e2 : b = encC l
        ·rw [if_pos ⟨e1,e2⟩,if_pos ⟨hk,hll,e2⟩]
        ·rw [if_neg (fun e => e2 e.2),if_neg (fun e => e2 e.2.2)]
       rw [hc]
       cases hcc : chkE b k encC l with
       | none =>
        rw [hcc] at hu
        refine Uw (J8 s0 s1 s2 s3 s9 hr5 hr6 (J8 hr7 hg0 hlt0 hge0 hn hn3 hn4 (J5 hx hls hl2 e1 hu))) ?_
        simp [pf496]
       | some l' =>
        rw [hcc] at hu
        refine Uw (J8 s0 s1 s2 s3 s9 hr5 hr6 (J8 hr7 hg0 hlt0 hge0 hn hn3 hn4 (J5 hx hls hl2 e1 hu))) ?_
        simp [pf496]
      ·have hD : decC b ty k = none:=by rw [hdc,hby]; simp only; rw [if_neg (fun e => e1 e.1)]
       refine Uw (J8 s0 s1 s2 s3 s9 hr5 hr6 (J8 hr7 hg0 hlt0 hge0 hn hn3 hn4 (J5 hx hls hl2 e1 hD))) ?_
       repeat intro hc
       simp [pf496,hD]
    ·skip
     by_cases n3 : c = 3
     ·subst n3
      cases hd : decF r k with
      | none =>
       have hD : decC b ty k = none:=by rw [hdc]; simp only [decBy]; simp [hd]
       have hx:=t525 k0 r k hr5 hr6
       rw [hd] at hx
       refine Uw (J8 s0 s1 s2 s3 s9 hr5 hr6 (J8 hr7 hg0 hlt0 hge0 hn hn3 hn4 (J4 hx ht0 ht1 hD))) ?_
       repeat intro hc
       simp [pf496,hD]
      | some l =>
       have hby : decBy 3 r ty k = some l:=by simp only [decBy]; simpa using hd
       have hls:=decBy_sms hr6 hby
       have hll:=decBy_len hr6 hby
       have hl2 : l.length ≤ 1048576:=by omega
       have hx:=t525 k0 r k hr5 hr6
       rw [hd] at hx
       by_cases e1 : typF l = ty
       ·obtain ⟨us,hu⟩:=u527 k0 true b k l encC hb (encC_ok l)
        have hc : decC b ty k = chkE b k encC l:=by
         rw [hdc,hby]; simp only
         unfold chkE
         by_cases e2 : b = encC l
         ·rw [if_pos ⟨e1,e2⟩,if_pos ⟨hk,hll,e2⟩]
         ·rw [if_neg (fun e => e2 e.2),if_neg (fun e => e2 e.2.2)]
        rw [hc]
        cases hcc : chkE b k encC l with
        | none =>
         rw [hcc] at hu
         refine Uw (J8 s0 s1 s2 s3 s9 hr5 hr6 (J8 hr7 hg0 hlt0 hge0 hn hn3 hn4 (J5 hx hls hl2 e1 hu))) ?_
         simp [pf496]
        | some l' =>
         rw [hcc] at hu
         refine Uw (J8 s0 s1 s2 s3 s9 hr5 hr6 (J8 hr7 hg0 hlt0 hge0 hn hn3 hn4 (J5 hx hls hl2 e1 hu))) ?_
         simp [pf496]
       ·have hD : decC b ty k = none:=by rw [hdc,hby]; simp only; rw [if_neg (fun e => e1 e.1)]
        refine Uw (J8 s0 s1 s2 s3 s9 hr5 hr6 (J8 hr7 hg0 hlt0 hge0 hn hn3 hn4 (J5 hx hls hl2 e1 hD))) ?_
        repeat intro hc
        simp [pf496,hD]
     ·skip
      have hD : decC b ty k = none:=by rw [hdc]; unfold decBy; rw [if_neg n0,if_neg n1,if_neg n2,if_neg n3]
      refine Uw (J8 s0 s1 s2 s3 s9 hr5 hr6 (J8 hr7 hg0 hlt0 hge0 hn hn3 hn4 (J8 n0 n1 n2 n3 ht0 ht2 ht1 hD))) ?_
      repeat intro hc
      simp [pf496,hD]

theorem t492 (k0 : Bool) (b : List Int) (ty k : Int) (h : b.length ≤ 1048576) (hb : bytesOk b) (hty : ty = 1 ∨ ty = 2) (hk : 1 ≤ k ∧ k ≤ 64) : Gw TT 492 [.one (.ro k0 (.sl 1 (b.map eb))),vi ty,vi k] = some (odV (decC b ty k),[]):=by
 refine Ga pf492 pb492 ?_
 unfold pb492
 have hty1 : (1 : Int) ≤ ty:=by omega
 have hty2 : ty ≤ 2:=by omega
 have ht0 : ¬ 0 = ty:=by omega
 have ht1:=t518 true [] (by simp) (fun v hv => by simp at hv)
 have ht2:=t518 false [] (by simp) (fun v hv => by simp at hv)
 simp only [List.map_nil,typF] at ht1 ht2
 rcases b with _ | ⟨c,r⟩
 ·have hD : decC [] ty k = none:=rfl
  refine Uw hD ?_
  simp [pf492,hD]
 ·obtain ⟨b,hbe⟩ : ∃ b,b = c :: r:=⟨_,rfl⟩
  have hdc : decC b ty k = match decBy c r ty k with
   | some l => if typF l = ty ∧ b = encC l then some l else none
   | none => none:=by rw [hbe]; try rfl
  rw [← hbe] at h hb ⊢
  have hg0 : b[0]? = some c:=by rw [hbe]; try rfl
  obtain ⟨hlt0,hge0⟩:=List.getElem?_eq_some_iff.1 hg0
  have hn : ¬ (b.length : Int) = 0:=by omega
  have hn3 : b ≠ []:=by rw [hbe]; simp
  have hn4 : ((b.length : Int) == 0) = false:=by simpa using hn3
  have hr6 : bytesOk r:=fun x hx => hb x (by rw [hbe]; simp [hx])
  have hbl : b.length = r.length + 1:=by rw [hbe]; try rfl
  have hr5 : r.length ≤ 1048576:=by omega
  have hr7:=hb c (by rw [hbe]; simp)
  have s0 : IntKind.wrap .i64 c = c:=wrap_i64 (by omega) (by omega)
  have s1 : (1 : Int) ≤ (b.length : Int):=by omega
  have s2 : 1 ≤ b.length:=by omega
  have s3 : (0 : Int) < (b.length : Int):=by omega
  have s9 : List.drop 1 (List.map eb b) = List.map eb r:=by rw [hbe]; try rfl
  by_cases n0 : c = 0
  ·subst n0
   cases hd : decP r ty k with
   | none =>
    have hD : decC b ty k = none:=by rw [hdc]; simp only [decBy]; simp [hd]
    have hx:=t514 k0 r ty k hr5 hr6
    rw [hd] at hx
    refine Uw (J8 s0 s1 s2 s3 s9 hr5 hr6 (J8 hr7 hg0 hlt0 hge0 hn hn3 hn4 (J6 hty1 hty2 hx ht0 ht1 hD))) ?_
    simp [pf492,hD]
   | some l =>
    have hby : decBy 0 r ty k = some l:=by simp only [decBy]; simpa using hd
    have hls:=decBy_sms hr6 hby
    have hll:=decBy_len hr6 hby
    have hl2 : l.length ≤ 1048576:=by omega
    have hx:=t514 k0 r ty k hr5 hr6
    rw [hd] at hx
    by_cases e1 : typF l = ty
    ·have hse:=strEq (encC_ok l) hb
     by_cases e2 : b = encC l
     ·have hD : decC b ty k = some l:=by rw [hdc,hby]; simp only; rw [if_pos ⟨e1,e2⟩]
      have e4 : ((strOf (encC l)).toList == (strOf b).toList) = true:=by rw [hse]; simpa using e2.symm
      refine Uw (J8 s0 s1 s2 s3 s9 hr5 hr6 (J8 hr7 hg0 hlt0 hge0 hn hn3 hn4 (J8 hty1 hty2 hx hls hl2 e1 e4 hD))) ?_
      simp [pf492,hD]
     ·have hD : decC b ty k = none:=by rw [hdc,hby]; simp only; rw [if_neg (fun e => e2 e.2)]
      have e4 : ((strOf (encC l)).toList == (strOf b).toList) = false:=by rw [hse]; simpa using fun e => e2 e.symm
      refine Uw (J8 s0 s1 s2 s3 s9 hr5 hr6 (J8 hr7 hg0 hlt0 hge0 hn hn3 hn4 (J8 hty1 hty2 hx hls hl2 e1 e4 hD))) ?_
      simp [pf492,hD]
    ·have hD : decC b ty k = none:=by rw [hdc,hby]; simp only; rw [if_neg (fun e => e1 e.1)]
     refine Uw (J8 s0 s1 s2 s3 s9 hr5 hr6 (J8 hr7 hg0 hlt0 hge0 hn hn3 hn4 (J7 hty1 hty2 hx hls hl2 e1 hD))) ?_
     simp [pf492,hD]
  ·skip
   by_cases n1 : c = 1
   ·subst n1
    cases hd : decR r ty k with
    | none =>
     have hD : decC b ty k = none:=by rw [hdc]; simp only [decBy]; simp [hd]
     have hx:=t515 k0 r ty k hr5 hr6
     rw [hd] at hx
     refine Uw (J8 s0 s1 s2 s3 s9 hr5 hr6 (J8 hr7 hg0 hlt0 hge0 hn hn3 hn4 (J6 hty1 hty2 hx ht0 ht1 hD))) ?_
     simp [pf492,hD]
    | some l =>
     have hby : decBy 1 r ty k = some l:=by simp only [decBy]; simpa using hd
     have hls:=decBy_sms hr6 hby
     have hll:=decBy_len hr6 hby
     have hl2 : l.length ≤ 1048576:=by omega
     have hx:=t515 k0 r ty k hr5 hr6
     rw [hd] at hx
     by_cases e1 : typF l = ty
     ·have hse:=strEq (encC_ok l) hb
      by_cases e2 : b = encC l
      ·have hD : decC b ty k = some l:=by rw [hdc,hby]; simp only; rw [if_pos ⟨e1,e2⟩]
       have e4 : ((strOf (encC l)).toList == (strOf b).toList) = true:=by rw [hse]; simpa using e2.symm
       refine Uw (J8 s0 s1 s2 s3 s9 hr5 hr6 (J8 hr7 hg0 hlt0 hge0 hn hn3 hn4 (J8 hty1 hty2 hx hls hl2 e1 e4 hD))) ?_
       simp [pf492,hD]
      ·have hD : decC b ty k = none:=by rw [hdc,hby]; simp only; rw [if_neg (fun e => e2 e.2)]
       have e4 : ((strOf (encC l)).toList == (strOf b).toList) = false:=by rw [hse]; simpa using fun e => e2 e.symm
       refine Uw (J8 s0 s1 s2 s3 s9 hr5 hr6 (J8 hr7 hg0 hlt0 hge0 hn hn3 hn4 (J8 hty1 hty2 hx hls hl2 e1 e4 hD))) ?_
       simp [pf492,hD]
     ·have hD : decC b ty k = none:=by rw [hdc,hby]; simp only; rw [if_neg (fun e => e1 e.1)]
      refine Uw (J8 s0 s1 s2 s3 s9 hr5 hr6 (J8 hr7 hg0 hlt0 hge0 hn hn3 hn4 (J7 hty1 hty2 hx hls hl2 e1 hD))) ?_
      simp [pf492,hD]
   ·skip
    by_cases n2 : c = 2
    ·subst n2
     cases hd : decD r ty k with
     | none =>
      have hD : decC b ty k = none:=by rw [hdc]; simp only [decBy]; simp [hd]
      have hx:=t516 k0 r ty k hr5 hr6
      rw [hd] at hx
      refine Uw (J8 s0 s1 s2 s3 s9 hr5 hr6 (J8 hr7 hg0 hlt0 hge0 hn hn3 hn4 (J6 hty1 hty2 hx ht0 ht1 hD))) ?_
      simp [pf492,hD]
     | some l =>
      have hby : decBy 2 r ty k = some l:=by simp only [decBy]; simpa using hd
      have hls:=decBy_sms hr6 hby
      have hll:=decBy_len hr6 hby
      have hl2 : l.length ≤ 1048576:=by omega
      have hx:=t516 k0 r ty k hr5 hr6
      rw [hd] at hx
      by_cases e1 : typF l = ty
      ·have hse:=strEq (encC_ok l) hb
       by_cases e2 : b = encC l
       ·have hD : decC b ty k = some l:=by rw [hdc,hby]; simp only; rw [if_pos ⟨e1,e2⟩]
        have e4 : ((strOf (encC l)).toList == (strOf b).toList) = true:=by rw [hse]; simpa using e2.symm
        refine Uw (J8 s0 s1 s2 s3 s9 hr5 hr6 (J8 hr7 hg0 hlt0 hge0 hn hn3 hn4 (J8 hty1 hty2 hx hls hl2 e1 e4 hD))) ?_
        simp [pf492,hD]
       ·have hD : decC b ty k = none:=by rw [hdc,hby]; simp only; rw [if_neg (fun e => e2 e.2)]
        have e4 : ((strOf (encC l)).toList == (strOf b).toList) = false:=by rw [hse]; simpa using fun e => e2 e.symm
        refine Uw (J8 s0 s1 s2 s3 s9 hr5 hr6 (J8 hr7 hg0 hlt0 hge0 hn hn3 hn4 (J8 hty1 hty2 hx hls hl2 e1 e4 hD))) ?_
        simp [pf492,hD]
      ·have hD : decC b ty k = none:=by rw [hdc,hby]; simp only; rw [if_neg (fun e => e1 e.1)]
       refine Uw (J8 s0 s1 s2 s3 s9 hr5 hr6 (J8 hr7 hg0 hlt0 hge0 hn hn3 hn4 (J7 hty1 hty2 hx hls hl2 e1 hD))) ?_
       simp [pf492,hD]
    ·skip
     by_cases n3 : c = 3
     ·subst n3
      cases hd : decF r k with
      | none =>
       have hD : decC b ty k = none:=by rw [hdc]; simp only [decBy]; simp [hd]
       have hx:=t517 k0 r k hr5 hr6
       rw [hd] at hx
       refine Uw (J8 s0 s1 s2 s3 s9 hr5 hr6 (J8 hr7 hg0 hlt0 hge0 hn hn3 hn4 (J6 hty1 hty2 hx ht0 ht1 hD))) ?_
       simp [pf492,hD]
      | some l =>
       have hby : decBy 3 r ty k = some l:=by simp only [decBy]; simpa using hd
       have hls:=decBy_sms hr6 hby
       have hll:=decBy_len hr6 hby
       have hl2 : l.length ≤ 1048576:=by omega
       have hx:=t517 k0 r k hr5 hr6
       rw [hd] at hx
       by_cases e1 : typF l = ty
       ·have hse:=strEq (encC_ok l) hb
        by_cases e2 : b = encC l
        ·have hD : decC b ty k = some l:=by rw [hdc,hby]; simp only; rw [if_pos ⟨e1,e2⟩]
         have e4 : ((strOf (encC l)).toList == (strOf b).toList) = true:=by rw [hse]; simpa using e2.symm
         refine Uw (J8 s0 s1 s2 s3 s9 hr5 hr6 (J8 hr7 hg0 hlt0 hge0 hn hn3 hn4 (J8 hty1 hty2 hx hls hl2 e1 e4 hD))) ?_
         simp [pf492,hD]
        ·have hD : decC b ty k = none:=by rw [hdc,hby]; simp only; rw [if_neg (fun e => e2 e.2)]
         have e4 : ((strOf (encC l)).toList == (strOf b).toList) = false:=by rw [hse]; simpa using fun e => e2 e.symm
         refine Uw (J8 s0 s1 s2 s3 s9 hr5 hr6 (J8 hr7 hg0 hlt0 hge0 hn hn3 hn4 (J8 hty1 hty2 hx hls hl2 e1 e4 hD))) ?_
         simp [pf492,hD]
       ·have hD : decC b ty k = none:=by rw [hdc,hby]; simp only; rw [if_neg (fun e => e1 e.1)]
        refine Uw (J8 s0 s1 s2 s3 s9 hr5 hr6 (J8 hr7 hg0 hlt0 hge0 hn hn3 hn4 (J7 hty1 hty2 hx hls hl2 e1 hD))) ?_
        simp [pf492,hD]
     ·skip
      have hD : decC b ty k = none:=by rw [hdc]; unfold decBy; rw [if_neg n0,if_neg n1,if_neg n2,if_neg n3]
      refine Uw (J8 s0 s1 s2 s3 s9 hr5 hr6 (J8 hr7 hg0 hlt0 hge0 hn hn3 hn4 (J8 hty1 hty2 n0 n1 n2 n3 ht0 (J3 ht2 ht1 hD)))) ?_
      repeat intro hc
      simp [pf492,hD]

def encNs (l : List Int) : List Int:=encN (l.length : Int) ++ l.flatMap encN

theorem numsF_can {b : List Int} (hb : bytesOk b) : ∀ {k : Nat} {u t : Int} {l : List Int},0 ≤ u → u ≤ (b.length : Int) → numsF b k u = some (l,t) →
  l.length = k ∧ (∀ n ∈ l,-1000000000 ≤ n ∧ n ≤ 1000000000) ∧ u ≤ t ∧ t ≤ (b.length : Int) ∧ b.drop u.toNat = l.flatMap encN ++ b.drop t.toNat
 | 0,u,t,l,h0,h1,h => by
  simp only [numsF,Option.some.injEq,Prod.mk.injEq] at h
  obtain ⟨rfl,rfl⟩:=h
  exact ⟨rfl,by simp,by omega,h1,by simp⟩
 | k + 1,u,t,l,h0,h1,h => by
  simp only [numsF] at h
  split at h
  ·rename_i n t1 hv
   split at h
   ·rename_i l' t2 hl
    simp only [Option.some.injEq,Prod.mk.injEq] at h
    obtain ⟨rfl,rfl⟩:=h
    obtain ⟨a1,a2,a3,a4,a5⟩:=gN_can hb hv
    obtain ⟨b1,b2,b3,b4,b5⟩:=numsF_can hb (by omega) a4 hl
    refine ⟨by simp [b1],fun x hx => ?_,by omega,b4,?_⟩
    ·rcases List.mem_cons.1 hx with rfl | hx
     ·exact a1
     ·exact b2 x hx
    ·rw [a5,b5]; simp
   ·cases h
  ·cases h

theorem gNs_can {b : List Int} (hb : bytesOk b) {l : List Int} {t : Int} (h : gNs b 0 = some (l,t)) :
  l.length ≤ 64 ∧ (∀ n ∈ l,-1000000000 ≤ n ∧ n ≤ 1000000000) ∧ 0 ≤ t ∧ t ≤ (b.length : Int) ∧ b = encNs l ++ b.drop t.toNat:=by
 unfold gNs at h
 split at h
 ·rename_i k u hg
  split at h
  ·rename_i hk
   obtain ⟨a1,a2,a3,a4,a5⟩:=gN_can hb hg
   obtain ⟨b1,b2,b3,b4,b5⟩:=numsF_can hb (by omega) a4 h
   refine ⟨by omega,b2,by omega,b4,?_⟩
   simp only [Int.toNat_zero,List.drop_zero] at a5
   have e : (l.length : Int) = k:=by omega
   rw [encNs,e,List.append_assoc,← b5]
   exact a5
  ·cases h
 ·cases h

def colN (k : Nat) (l : List XRow) : List XVal:=l.filterMap fun r => r.L[k]?
def addCol : List XRow → List XVal → List XRow
 | r :: rows,v :: vs => ⟨r.Id,r.L ++ [v]⟩ :: addCol rows vs
 | _,_ => []
def allL (j : Nat) (l : List XRow) : Prop:=∀ r ∈ l,r.L.length = j

theorem addCol_len : ∀ {rows : List XRow} {vs : List XVal},rows.length = vs.length → (addCol rows vs).length = rows.length
 | [],[],_ => rfl
 | [],_ :: _,h => by simp at h
 | _ :: _,[],h => by simp at h
 | r :: rows,v :: vs,h => by simp only [addCol,List.length_cons,addCol_len (rows:=rows) (vs:=vs) (by simpa using h)]
theorem addCol_ids : ∀ {rows : List XRow} {vs : List XVal},rows.length = vs.length → (addCol rows vs).map (·.Id) = rows.map (·.Id)
 | [],[],_ => rfl
 | [],_ :: _,h => by simp at h
 | _ :: _,[],h => by simp at h
 | r :: rows,v :: vs,h => by simp only [addCol,List.map_cons,addCol_ids (rows:=rows) (vs:=vs) (by simpa using h)]
theorem addCol_all {j : Nat} : ∀ {rows : List XRow} {vs : List XVal},allL j rows → allL (j + 1) (addCol rows vs)
 | [],_,_ => fun r hr => by simp [addCol] at hr
 | _ :: _,[],_ => fun r hr => by simp [addCol] at hr
 | r :: rows,v :: vs,h => fun x hx => by
  simp only [addCol] at hx
  rcases List.mem_cons.1 hx with rfl | hx
  ·have:=h r (by simp); simp [this]
  ·exact addCol_all (rows:=rows) (vs:=vs) (fun y hy => h y (by simp [hy])) x hx
theorem addCol_col {j : Nat} : ∀ {rows : List XRow} {vs : List XVal},rows.length = vs.length → allL j rows → colN j (addCol rows vs) = vs
 | [],[],_,_ => rfl
 | [],_ :: _,h,_ => by simp at h
 | _ :: _,[],h,_ => by simp at h
 | r :: rows,v :: vs,h,ha => by
  have h1:=ha r (by simp)
  have ih:=addCol_col (rows:=rows) (vs:=vs) (by simpa using h) (fun y hy => ha y (by simp [hy]))
  simp only [colN] at ih
  simp only [colN,addCol]
  rw [List.filterMap_cons_some (b:=v) (by simp [← h1])]
  rw [ih]
theorem addCol_old {j k : Nat} (hk : k < j) : ∀ {rows : List XRow} {vs : List XVal},rows.length = vs.length → allL j rows → colN k (addCol rows vs) = colN k rows
 | [],[],_,_ => rfl
 | [],_ :: _,h,_ => by simp at h
 | _ :: _,[],h,_ => by simp at h
 | r :: rows,v :: vs,h,ha => by
  have h1:=ha r (by simp)
  have ih:=addCol_old hk (rows:=rows) (vs:=vs) (by simpa using h) (fun y hy => ha y (by simp [hy]))
  simp only [colN] at ih
  simp only [colN,addCol,List.filterMap_cons]
  rw [ih,List.getElem?_append_left (by omega)]

/-- The bytes of a column. -/
def segB (b : List Int) (u n : Int) : List Int:=(b.take (u + n).toNat).drop u.toNat
def getCols (b : List Int) (m : Int) : List Int → Int → List XRow → Option (List XRow × Int)
 | [],u,rows => some (rows,u)
 | ty :: cs,u,rows => match gN b u with
  | some (n,t) => if 0 ≤ n ∧ n ≤ (b.length : Int) - t then (match decC (segB b t n) ty m with
   | some vs => getCols b m cs (t + n) (addCol rows vs)
   | none => none) else none
  | none => none

def colsEnc (rows : List XRow) : Nat → Nat → List Int
 | 0,_ => []
 | n + 1,j => encN ((encC (colN j rows)).length : Int) ++ encC (colN j rows) ++ colsEnc rows n (j + 1)

theorem segB_len {b : List Int} {u n : Int} (h0 : 0 ≤ u) (h1 : 0 ≤ n) (h2 : n ≤ (b.length : Int) - u) : ((segB b u n).length : Int) = n:=by
 simp only [segB,List.length_drop,List.length_take]; omega
theorem segB_app {b : List Int} {u n : Int} (h0 : 0 ≤ u) (h1 : 0 ≤ n) : b.drop u.toNat = segB b u n ++ b.drop (u + n).toNat:=by
 have e : (u + n).toNat = u.toNat + n.toNat:=by omega
 rw [segB,e,← List.drop_drop,List.drop_take]
 rw [show u.toNat + n.toNat - u.toNat = n.toNat by omega]
 exact (List.take_append_drop _ _).symm

theorem getCols_can {b : List Int} {m : Int} (hb : bytesOk b) : ∀ {cs : List Int} {u t : Int} {rows rows' : List XRow} {j : Nat},0 ≤ u → u ≤ (b.length : Int) → (rows.length : Int) = m → allL j rows →
  getCols b m cs u rows = some (rows',t) →
  rows'.length = rows.length ∧ rows'.map (·.Id) = rows.map (·.Id) ∧ allL (j + cs.length) rows' ∧ (∀ i,i < j → colN i rows' = colN i rows) ∧ u ≤ t ∧ t ≤ (b.length : Int) ∧
   b.drop u.toNat = colsEnc rows' cs.length j ++ b.drop t.toNat
 | [],u,t,rows,rows',j,h0,h1,hm,ha,h => by
  simp only [getCols,Option.some.injEq,Prod.mk.injEq] at h
  obtain ⟨rfl,rfl⟩:=h
  exact ⟨rfl,rfl,by simpa using ha,fun _ _ => rfl,by omega,h1,by simp [colsEnc]⟩
 | ty :: cs,u,t,rows,rows',j,h0,h1,hm,ha,h => by
  simp only [getCols] at h
  split at h
  ·rename_i n w hg
   split at h
   ·rename_i hn
    split at h
    ·rename_i vs hd
     obtain ⟨a1,a2,a3,a4,a5⟩:=gN_can hb hg
     have hsb : bytesOk (segB b w n):=bytesOk_drop _ (bytesOk_take _ hb)
     obtain ⟨d1,d2,d3⟩:=decC_some hsb hd
     have hl : rows.length = vs.length:=by omega
     obtain ⟨e1,e2,e3,e4,e5,e6,e7⟩:=getCols_can hb (cs:=cs) (j:=j + 1) (by omega) (by omega) (by rw [addCol_len hl]; exact hm) (addCol_all ha) h
     have hc : colN j rows' = vs:=by rw [e4 j (by omega),addCol_col hl ha]
     refine ⟨e1.trans (addCol_len hl),e2.trans (addCol_ids hl),?_,fun i hi => ?_,by omega,e6,?_⟩
     ·rw [List.length_cons,show j + (cs.length + 1) = j + 1 + cs.length by omega]; exact e3
     ·rw [e4 i (by omega),addCol_old hi hl ha]
     ·have hsl:=segB_len (b:=b) (u:=w) (n:=n) (by omega) hn.1 hn.2
      simp only [List.length_cons,colsEnc]
      rw [hc,← d3,hsl,a5,segB_app (u:=w) (n:=n) (by omega) hn.1,e7]
      simp [List.append_assoc]
    ·cases h
   ·cases h
  ·cases h

def rowOkF (cols : List Int) (r : XRow) : Bool:=decide (0 ≤ r.Id) && fitsF cols r.L
def prevOk : Option Int → Int → Bool
 | some q,i => decide (q < i)
 | none,_ => true
def rowsL (cols : List Int) : Option Int → List XRow → Bool
 | _,[] => true
 | p,r :: l => if rowOkF cols r = true ∧ r.Id ≤ 1000000000 ∧ prevOk p r.Id = true then rowsL cols (some r.Id) l else false
def rowsOkF (cols : List Int) (l : List XRow) : Bool:=colsOk cols && (decide (l.length ≤ 12) && rowsL cols none l)

theorem rowsL_ids {cols : List Int} : ∀ {l : List XRow} {p : Option Int},rowsL cols p l = true → ∀ r ∈ l,0 ≤ r.Id ∧ r.Id ≤ 1000000000
 | [],_,_,r,hr => by simp at hr
 | x :: l,p,h,r,hr => by
  simp only [rowsL] at h
  split at h
  ·rename_i hx
   rcases List.mem_cons.1 hr with rfl | hr
   ·have:=hx.1
    simp only [rowOkF,Bool.and_eq_true,decide_eq_true_eq] at this
    exact ⟨this.1,hx.2.1⟩
   ·exact rowsL_ids h r hr
  ·cases h

def putGF (cols : List Int) (l : List XRow) : List Int:=if rowsOkF cols l = true then encNs (l.map (·.Id)) ++ (if l.length = 0 then [] else colsEnc l cols.length 0) else []

theorem colsEnc_ok (rows : List XRow) : ∀ (n j : Nat),bytesOk (colsEnc rows n j)
 | 0,_ => bytesOk_nil
 | n + 1,j => bytesOk_append (bytesOk_append (encN_ok _) (encC_ok _)) (colsEnc_ok rows n (j + 1))
theorem putGF_ok (cols : List Int) (l : List XRow) : bytesOk (putGF cols l):=by
 unfold putGF
 split
 ·refine bytesOk_append (bytesOk_append (encN_ok _) (bytesOk_flat encN_ok _)) ?_
  split
  ·exact bytesOk_nil
  ·exact colsEnc_ok _ _ _
 ·exact bytesOk_nil

def rows0 (ids : List Int) : List XRow:=ids.map fun i => ⟨i,[]⟩
/-- The columns,if there are rows. -/
def gCols (b : List Int) (cols : List Int) (u : Int) (ids : List Int) : Option (List XRow × Int):=if ids.length = 0 then some ([],u) else getCols b (ids.length : Int) cols u (rows0 ids)
def ggF (cols b : List Int) : Option (List XRow):=match gNs b 0 with
 | some (ids,u) => if colsOk cols = true then (match gCols b cols u ids with
  | some (rows,t) => if t = (b.length : Int) ∧ rowsOkF cols rows = true then some rows else none
  | none => none) else none
 | none => none

theorem ggF_put {b cols : List Int} {ids : List Int} {u t : Int} {rows : List XRow} (hb : bytesOk b) (h1 : gNs b 0 = some (ids,u)) (h2 : gCols b cols u ids = some (rows,t)) (h3 : rowsOkF cols rows = true) :
  (b = putGF cols rows ↔ t = (b.length : Int)):=by
 obtain ⟨a1,a2,a3,a4,a5⟩:=gNs_can hb h1
 unfold putGF
 rw [if_pos h3]
 unfold gCols at h2
 split at h2
 ·rename_i h0
  simp only [Option.some.injEq,Prod.mk.injEq] at h2
  obtain ⟨rfl,rfl⟩:=h2
  have : ids = []:=List.length_eq_zero_iff.1 h0
  subst this
  simp only [List.map_nil,List.length_nil,if_true,List.append_nil]
  constructor
  ·intro e
   have hl:=congrArg List.length a5
   rw [← e] at hl
   simp only [List.length_append,List.length_drop] at hl
   omega
  ·intro e
   rw [a5]
   conv => lhs; rw [List.drop_of_length_le (by omega)]
   simp
 ·rename_i h0
  obtain ⟨c1,c2,c3,c4,c5,c6,c7⟩:=getCols_can hb (j:=0) a3 a4 (by simp [rows0]) (fun r hr => by simp only [rows0,List.mem_map] at hr; obtain ⟨i,_,rfl⟩:=hr; rfl) h2
  have hrl : rows.length ≠ 0:=by rw [c1]; simpa [rows0] using h0
  have hids : rows.map (·.Id) = ids:=by rw [c2]; simp [rows0,Function.comp_def]
  rw [if_neg hrl,hids]
  rw [c7] at a5
  constructor
  ·intro e
   have hl:=congrArg List.length a5
   rw [e] at hl
   simp only [List.length_append,List.length_drop] at hl
   have hl2:=congrArg List.length e
   simp only [List.length_append] at hl2
   omega
  ·intro e
   rw [e,show ((b.length : Int)).toNat = b.length by omega,List.drop_length,List.append_nil] at a5
   exact a5

theorem gCols_len {b cols : List Int} {ids : List Int} {u t : Int} {rows : List XRow} (hb : bytesOk b) (h1 : gNs b 0 = some (ids,u)) (h2 : gCols b cols u ids = some (rows,t)) : rows.length = ids.length:=by
 obtain ⟨a1,a2,a3,a4,a5⟩:=gNs_can hb h1
 unfold gCols at h2
 split at h2
 ·rename_i h0
  simp only [Option.some.injEq,Prod.mk.injEq] at h2
  obtain ⟨rfl,rfl⟩:=h2
  simp [h0]
 ·obtain ⟨c1,_⟩:=getCols_can hb (j:=0) a3 a4 (by simp [rows0]) (fun r hr => by simp only [rows0,List.mem_map] at hr; obtain ⟨i,_,rfl⟩:=hr; rfl) h2
  rw [c1]; simp [rows0]

theorem colN_no {k : Nat} {a : List XVal} {r : XRow} {l : List XRow} (h : ¬ k < r.L.length) : a ++ colN k (r :: l) = a ++ colN k l:=by
 simp only [colN,List.filterMap_cons]
 rw [List.getElem?_eq_none (by omega)]

theorem colN_yes {k : Nat} {a : List XVal} {r : XRow} {l : List XRow} {v : XVal} (h : r.L[k]? = some v) : a ++ colN k (r :: l) = (a ++ [v]) ++ colN k l:=by
 simp only [colN]
 rw [List.filterMap_cons_some (f:=fun r : XRow => r.L[k]?) h]; simp

theorem colN_len (k : Nat) (l : List XRow) : (colN k l).length ≤ l.length:=List.length_filterMap_le _ _

theorem colN_sms {k : Nat} {l : List XRow} (h : XRow.sms l) : XVal.sms (colN k l):=fun v hv => by
 simp only [colN,List.mem_filterMap] at hv
 obtain ⟨r,hr,hv⟩:=hv
 exact (h r hr).2 v (List.mem_of_getElem? hv)

@[simp] theorem t481 (k0 : Bool) (l : List XRow) (k : Nat) (h : l.length ≤ 1048576) (hs : XRow.sms l) (hk : k ≤ 1048576) : Gw TT 481 [.one (.ro k0 (.sl 2 (l.map XRow.e))),vi (k : Int)] = some (.one (.own (.sl 3 ((colN k l).map XVal.e))),[]):=by
 refine Ga pf481 pb481 ?_
 unfold pb481
 refine Ua Oo ?_
 refine wp_loopI (σ:=List XRow × List XRow × List XVal) (fun s => [(1,AV.v false (di (k : Nat)),none),(5,AV.pl 5 0 [],some (Rt.vir [C.own (D.sl 3 ((s.2.2).map XVal.e))])),(9,AV.v k0 (D.sl 2 (l.map XRow.e)),none),(10,AV.v false (di (l.length : Nat)),none),(11,AV.v false (di ((s.1.length : Nat) : Int)),none)]) (fun s => l = s.1 ++ s.2.1 ∧ colN k l = s.2.2 ++ colN k s.2.1 ∧ s.2.2.length ≤ s.1.length) (fun s => s.2.1.length) ([],l,[]) (by simp) ⟨rfl,by simp,by simp⟩ ?_
 rintro ⟨pre,rest,a⟩ ⟨y1,y2,y4⟩
 simp only at y1 y2 y4
 have y3 : l.length = pre.length + rest.length:=by rw [y1,List.length_append]
 rcases rest with _ | ⟨⟨y_Id,y_L⟩,rest⟩
 ·simp only [List.length_nil] at y3
  simp only [colN,List.filterMap_nil,List.append_nil] at y2
  have c1 : ¬ (pre.length : Int) < (l.length : Int):=by omega
  unfold pl481_0
  refine Ua (J2 c1 y2) ?_
  simp [pf481,colN,y2]
 ·simp only [List.length_cons] at y3
  have hg : l[pre.length]? = some ⟨y_Id,y_L⟩:=by rw [y1]; simp
  have hsd:=hs ⟨y_Id,y_L⟩ (List.mem_of_getElem? hg)
  simp only [XRow.sm] at hsd
  obtain ⟨hlt,hge⟩:=List.getElem?_eq_some_iff.1 hg
  have c1 : (pre.length : Int) < (l.length : Int):=by omega
  have hw:=Wi ((pre.length : Int) + 1)
  have hq : (a.length + 1) * 32 ≤ 70368744177664:=by omega
  have hw2:=Wi ((y_L.length : Int) - 1)
  unfold pl481_0
  by_cases q : k < y_L.length
  ·obtain ⟨⟨dT,dN,dS⟩,hv⟩ : ∃ v,y_L[k]? = some v:=⟨_,List.getElem?_eq_getElem q⟩
   have hve:=(List.getElem?_eq_some_iff.1 hv).2
   rw [colN_yes hv] at y2
   have p1 : (k : Int) < (y_L.length : Int):=by omega
   have p2 : ¬ (y_L.length : Int) ≤ (k : Int):=by omega
   have p3 : (k : Int) ≤ (y_L.length : Int) - 1:=by omega
   refine Ua (J8 hg hge hlt c1 hw hw2 hq (J6 q hv hve p1 p2 p3)) ?_
   exact ⟨(pre ++ [⟨y_Id,y_L⟩],rest,a ++ [⟨dT,dN,dS⟩]),(by simp; try omega),⟨by rw [y1]; simp,y2,by simp; omega⟩,by simp⟩
  ·rw [colN_no q] at y2
   have p1 : ¬ (k : Int) < (y_L.length : Int):=by omega
   have p2 : (y_L.length : Int) ≤ (k : Int):=by omega
   have p3 : ¬ (k : Int) ≤ (y_L.length : Int) - 1:=by omega
   refine Ua (J8 hg hge hlt c1 hw hw2 q (J3 p1 p2 p3)) ?_
   exact ⟨(pre ++ [⟨y_Id,y_L⟩],rest,a),(by simp; try omega),⟨by rw [y1]; simp,y2,by simp; omega⟩,by simp⟩

@[simp] theorem t529 (k0 k1 : Bool) (cols : List Int) (r_Id : Int) (r_L : List XVal) (h : cols.length ≤ 1048576) (h5 : r_L.length ≤ 1048576) (hs : XVal.sms r_L) : Gw TT 529 [.one (.ro k0 (.sl 1 (cols.map ei))),.st [.ro false (di r_Id),.ro k1 (.sl 3 (r_L.map XVal.e))]] = some (vb (rowOkF cols ⟨r_Id,r_L⟩),[]):=by
 refine Ga pf529 pb529 ?_
 unfold pb529
 refine Ud (J3 h h5 hs) ?_ ?_
 all_goals repeat intro hc
 all_goals first | (simp_all [pf529,rowOkF]; done) | (simp_all [pf529,rowOkF]; omega)

@[simp] theorem t520 (k0 k1 : Bool) (cols : List Int) (r_Id : Int) (r_L : List XVal) (h : cols.length ≤ 1048576) (h5 : r_L.length ≤ 1048576) (hs : XVal.sms r_L) : Gw TT 520 [.one (.ro k0 (.sl 1 (cols.map ei))),.st [.ro false (di r_Id),.ro k1 (.sl 3 (r_L.map XVal.e))]] = some (vb (rowOkF cols ⟨r_Id,r_L⟩),[]):=by
 refine Ga pf520 pb520 ?_
 unfold pb520
 refine Ud (J3 h h5 hs) ?_ ?_
 all_goals repeat intro hc
 all_goals first | (simp_all [pf520,rowOkF]; done) | (simp_all [pf520,rowOkF]; omega)

theorem rowsL_no {cols : List Int} {p : Option Int} {r : XRow} {l : List XRow} (h : ¬ (rowOkF cols r = true ∧ r.Id ≤ 1000000000 ∧ prevOk p r.Id = true)) : rowsL cols p (r :: l) = false:=by
 simp only [rowsL]; rw [if_neg h]

theorem rowsL_yes {cols : List Int} {p : Option Int} {r : XRow} {l : List XRow} (h : rowOkF cols r = true ∧ r.Id ≤ 1000000000 ∧ prevOk p r.Id = true) : rowsL cols p (r :: l) = rowsL cols (some r.Id) l:=by
 simp only [rowsL]; rw [if_pos h]

def lastId (l : List XRow) : Option Int:=(l.getLast?).map (·.Id)
theorem lastId_app (l : List XRow) (r : XRow) : lastId (l ++ [r]) = some r.Id:=by simp [lastId]

theorem prevOk_last {l : List XRow} {n : Nat} {r : XRow} (hl : l.length = n + 1) (h : l[n]? = some r) (i : Int) : prevOk (lastId l) i = decide (r.Id < i):=by
 have : l.getLast? = some r:=by rw [List.getLast?_eq_getElem?,hl]; exact h
 simp [lastId,this,prevOk]

@[simp] theorem t497 (k0 k1 : Bool) (cols : List Int) (l : List XRow) (h : cols.length ≤ 1048576) (h2 : l.length ≤ 1048576) (hs : XRow.sms l) : Gw TT 497 [.one (.ro k0 (.sl 1 (cols.map ei))),.one (.ro k1 (.sl 2 (l.map XRow.e)))] = some (vb (rowsOkF cols l),[]):=by
 refine Ga pf497 pb497 ?_
 unfold pb497
 cases hc0 : colsOk cols with
 | false =>
  have hf : rowsOkF cols l = false:=by simp [rowsOkF,hc0]
  refine Ud (J3 h hc0 hf) ?_
  simp [pf497,hf]
 | true =>
 by_cases hm : 12 < l.length
 ·have hf : rowsOkF cols l = false:=by simp [rowsOkF]; intro _ _; omega
  have hm1 : (12 : Int) < (l.length : Int):=by omega
  refine Ud (J4 h hc0 hf hm1) ?_
  simp [pf497,hf]
 have hm1 : ¬ (12 : Int) < (l.length : Int):=by omega
 have hro : rowsOkF cols l = rowsL cols none l:=by
  simp only [rowsOkF,hc0]; simp; intro _; omega
 refine Ud (J3 h hc0 hm1) ?_
 refine wp_loopI (σ:=List XRow × List XRow) (fun s => [(0,AV.v k0 (D.sl 1 (cols.map ei)),none),(1,AV.v k1 (D.sl 2 (l.map XRow.e)),none),(15,AV.v k1 (D.sl 2 (l.map XRow.e)),none),(16,AV.v false (di (l.length : Nat)),none),(17,AV.v false (di ((s.1.length : Nat) : Int)),none)]) (fun s => l = s.1 ++ s.2 ∧ rowsL cols none l = rowsL cols (lastId s.1) s.2) (fun s => s.2.length) ([],l) (by simp) ⟨rfl,rfl⟩ ?_
 rintro ⟨pre,rest⟩ ⟨y1,y2⟩
 simp only at y1 y2
 have y3 : l.length = pre.length + rest.length:=by rw [y1,List.length_append]
 rcases rest with _ | ⟨⟨y_Id,y_L⟩,rest⟩
 ·simp only [List.length_nil] at y3
  have c1 : ¬ (pre.length : Int) < (l.length : Int):=by omega
  unfold pl497_0
  have hf : rowsOkF cols l = true:=by rw [hro,y2]; try rfl
  refine Ud (J2 c1 hf) ?_
  simp [pf497,hf]
 ·simp only [List.length_cons] at y3
  have hg : l[pre.length]? = some ⟨y_Id,y_L⟩:=by rw [y1]; simp
  have hsd:=hs ⟨y_Id,y_L⟩ (List.mem_of_getElem? hg)
  simp only [XRow.sm] at hsd
  obtain ⟨hsL,hsS⟩:=hsd
  obtain ⟨hlt,hge⟩:=List.getElem?_eq_some_iff.1 hg
  have c1 : (pre.length : Int) < (l.length : Int):=by omega
  have hw:=Wi ((pre.length : Int) + 1)
  unfold pl497_0
  cases hro1 : rowOkF cols ⟨y_Id,y_L⟩ with
  | false =>
   rw [rowsL_no (by rw [hro1]; simp)] at y2
   have hf : rowsOkF cols l = false:=by rw [hro]; exact y2
   refine Ud (J8 hg hge hlt c1 hw h hsL (J3 hsS hro1 hf)) ?_
   simp [pf497,hf]
  | true =>
   by_cases hbig : 1000000000 < y_Id
   ·rw [rowsL_no (by simp only; omega)] at y2
    have hf : rowsOkF cols l = false:=by rw [hro]; exact y2
    refine Ud (J8 hg hge hlt c1 hw h hsL (J4 hsS hro1 hbig hf)) ?_
    simp [pf497,hf]
   ·by_cases hp0 : pre.length = 0
    ·have hpe : pre = []:=List.length_eq_zero_iff.1 hp0
     rw [rowsL_yes ⟨hro1,by simp only; omega,by rw [hpe]; rfl⟩] at y2
     subst hpe
     simp only [List.length_nil] at hg hlt hge
     have c1 : (0 : Int) < (l.length : Int):=by omega
     have w1 : IntKind.wrap .i64 1 = 1:=wrap_i64 (by omega) (by omega)
     refine Ud (J8 hg hge hlt c1 w1 h hsL (J3 hsS hro1 hbig)) ?_
     exact ⟨([] ++ [⟨y_Id,y_L⟩],rest),(by simp; try omega),⟨by rw [y1]; simp,by rw [y2,lastId_app]⟩,by simp⟩
    ·obtain ⟨m,hm2⟩ : ∃ m,pre.length = m + 1:=⟨pre.length - 1,by omega⟩
     obtain ⟨⟨z_Id,z_L⟩,hz⟩ : ∃ z,pre[m]? = some z:=⟨_,List.getElem?_eq_getElem (by omega)⟩
     have hz2 : l[m]? = some ⟨z_Id,z_L⟩:=by rw [y1,List.getElem?_append_left (by omega)]; exact hz
     obtain ⟨hzl,hze⟩:=List.getElem?_eq_some_iff.1 hz2
     have hpo:=prevOk_last hm2 hz y_Id
     have q1 : ((m : Int) + 1) - 1 = (m : Int):=by omega
     have q2 : (0 : Int) < (pre.length : Int):=by omega
     have q3 : IntKind.wrap .i64 ((pre.length : Int) - 1) = (m : Int):=by rw [hm2]; rw [show (((m + 1 : Nat) : Int) - 1) = (m : Int) by omega]; exact wrap_i64 (by omega) (by omega)
     by_cases hlt2 : z_Id < y_Id
     ·rw [rowsL_yes ⟨hro1,by simp only; omega,by rw [hpo]; simpa using hlt2⟩] at y2
      have q4 : ¬ y_Id ≤ z_Id:=by omega
      refine Ud (J8 hg hge hlt c1 hw h hsL (J8 hsS hro1 hbig q2 q3 hz2 hze (J2 hzl q4))) ?_
      repeat intro hc
      exact ⟨(pre ++ [⟨y_Id,y_L⟩],rest),(by simp; try omega),⟨by rw [y1]; simp,by rw [y2,lastId_app]⟩,by simp⟩
     ·rw [rowsL_no (by rw [hpo]; simp; intro _ _; omega)] at y2
      have q4 : y_Id ≤ z_Id:=by omega
      have hf : rowsOkF cols l = false:=by rw [hro]; exact y2
      refine Ud (J8 hg hge hlt c1 hw h hsL (J8 hsS hro1 hbig q2 q3 hz2 hze (J3 hzl q4 hf))) ?_
      repeat intro hc
      simp [pf497,hf]

@[simp] theorem t493 (k0 k1 : Bool) (cols : List Int) (l : List XRow) (h : cols.length ≤ 1048576) (h2 : l.length ≤ 1048576) (hs : XRow.sms l) : Gw TT 493 [.one (.ro k0 (.sl 1 (cols.map ei))),.one (.ro k1 (.sl 2 (l.map XRow.e)))] = some (vb (rowsOkF cols l),[]):=by
 refine Ga pf493 pb493 ?_
 unfold pb493
 refine Ud h ?_
 refine wp_loopI (σ:=List XRow × List XRow) (fun s => [(0,AV.v k0 (D.sl 1 (cols.map ei)),none),(1,AV.v k1 (D.sl 2 (l.map XRow.e)),none),(5,AV.v false (di ((s.1.length : Nat) : Int)),none)]) (fun s => l = s.1 ++ s.2 ∧ rowsL cols none l = rowsL cols (lastId s.1) s.2) (fun s => s.2.length) ([],l) (by simp) ⟨rfl,rfl⟩ ?_
 rintro ⟨pre,rest⟩ ⟨y1,y2⟩
 simp only at y1 y2
 have y3 : l.length = pre.length + rest.length:=by rw [y1,List.length_append]
 rcases rest with _ | ⟨⟨y_Id,y_L⟩,rest⟩
 ·simp only [List.length_nil] at y3
  have c1 : ¬ (pre.length : Int) < (l.length : Int):=by omega
  unfold pl493_0
  have hf : rowsOkF cols l = (colsOk cols && decide ((l.length : Int) ≤ 12)):=by
   have e : decide (l.length ≤ 12) = decide ((l.length : Int) ≤ 12):=by simp; omega
   simp only [rowsOkF,y2,rowsL,Bool.and_true,e]
  refine Ud (J3 c1 h hf) ?_ ?_
  all_goals repeat intro hc
  all_goals simp_all [pf493]
 ·simp only [List.length_cons] at y3
  have hg : l[pre.length]? = some ⟨y_Id,y_L⟩:=by rw [y1]; simp
  have hsd:=hs ⟨y_Id,y_L⟩ (List.mem_of_getElem? hg)
  simp only [XRow.sm] at hsd
  obtain ⟨hsL,hsS⟩:=hsd
  obtain ⟨hlt,hge⟩:=List.getElem?_eq_some_iff.1 hg
  have c1 : (pre.length : Int) < (l.length : Int):=by omega
  have hw:=Wi ((pre.length : Int) + 1)
  unfold pl493_0
  cases hro1 : rowOkF cols ⟨y_Id,y_L⟩ with
  | false =>
   rw [rowsL_no (by rw [hro1]; simp)] at y2
   have hf : rowsOkF cols l = false:=by simp [rowsOkF,y2]
   refine Ud (J8 hg hge hlt c1 hw h hsL (J3 hsS hro1 hf)) ?_
   simp [pf493,hf]
  | true =>
   by_cases hbig : 1000000000 < y_Id
   ·rw [rowsL_no (by simp only; omega)] at y2
    have hf : rowsOkF cols l = false:=by simp [rowsOkF,y2]
    refine Ud (J8 hg hge hlt c1 hw h hsL (J4 hsS hro1 hbig hf)) ?_
    simp [pf493,hf]
   ·by_cases hp0 : pre.length = 0
    ·have hpe : pre = []:=List.length_eq_zero_iff.1 hp0
     rw [rowsL_yes ⟨hro1,by simp only; omega,by rw [hpe]; rfl⟩] at y2
     subst hpe
     simp only [List.length_nil] at hg hlt hge
     have c1 : (0 : Int) < (l.length : Int):=by omega
     have w1 : IntKind.wrap .i64 1 = 1:=wrap_i64 (by omega) (by omega)
     refine Ud (J8 hg hge hlt c1 w1 h hsL (J3 hsS hro1 hbig)) ?_
     exact ⟨([] ++ [⟨y_Id,y_L⟩],rest),(by simp; try omega),⟨by rw [y1]; simp,by rw [y2,lastId_app]⟩,by simp⟩
    ·obtain ⟨m,hm2⟩ : ∃ m,pre.length = m + 1:=⟨pre.length - 1,by omega⟩
     obtain ⟨⟨z_Id,z_L⟩,hz⟩ : ∃ z,pre[m]? = some z:=⟨_,List.getElem?_eq_getElem (by omega)⟩
     have hz2 : l[m]? = some ⟨z_Id,z_L⟩:=by rw [y1,List.getElem?_append_left (by omega)]; exact hz
     obtain ⟨hzl,hze⟩:=List.getElem?_eq_some_iff.1 hz2
     have hpo:=prevOk_last hm2 hz y_Id
     have q1 : ((m : Int) + 1) - 1 = (m : Int):=by omega
     have q2 : (0 : Int) < (pre.length : Int):=by omega
     have q3 : IntKind.wrap .i64 ((pre.length : Int) - 1) = (m : Int):=by rw [hm2]; rw [show (((m + 1 : Nat) : Int) - 1) = (m : Int) by omega]; exact wrap_i64 (by omega) (by omega)
     by_cases hlt2 : z_Id < y_Id
     ·rw [rowsL_yes ⟨hro1,by simp only; omega,by rw [hpo]; simpa using hlt2⟩] at y2
      have q4 : ¬ y_Id ≤ z_Id:=by omega
      refine Ud (J8 hg hge hlt c1 hw h hsL (J8 hsS hro1 hbig q2 q3 hz2 hze (J2 hzl q4))) ?_
      repeat intro hc
      exact ⟨(pre ++ [⟨y_Id,y_L⟩],rest),(by simp; try omega),⟨by rw [y1]; simp,by rw [y2,lastId_app]⟩,by simp⟩
     ·rw [rowsL_no (by rw [hpo]; simp; intro _ _; omega)] at y2
      have q4 : y_Id ≤ z_Id:=by omega
      have hf : rowsOkF cols l = false:=by simp [rowsOkF,y2]
      refine Ud (J8 hg hge hlt c1 hw h hsL (J8 hsS hro1 hbig q2 q3 hz2 hze (J3 hzl q4 hf))) ?_
      repeat intro hc
      simp [pf493,hf]

theorem flatN_len : ∀ l : List Int,(l.flatMap encN).length ≤ 5 * l.length
 | [] => by simp
 | n :: l => by
  have:=flatN_len l
  have:=encN_len n
  simp only [List.flatMap_cons,List.length_append,List.length_cons]; omega

theorem numB_of {n : Int} (h : -1000000000 ≤ n ∧ n ≤ 1000000000) : numB n = true:=by simp [numB,h.1,h.2]

@[simp] theorem t530 (k0 k1 : Bool) (l : List Int) (h : l.length ≤ 64) (hn : ∀ n ∈ l,-1000000000 ≤ n ∧ n ≤ 1000000000) : Gw TT 530 [.one (.ro k0 (.sl 1 [])),.one (.ro k1 (.sl 1 (l.map ei)))] = some (.one (.own (.sl 1 ((encNs l).map eb))),[]):=by
 refine Ga pf530 pb530 ?_
 unfold pb530
 have h69:=t69 k0 [] (by simp)
 simp only [List.map_nil] at h69
 have c0 : ¬ (1000000000 : Int) < (l.length : Int):=by omega
 refine Ua (J2 h69 c0) ?_
 refine wp_loopI (σ:=List Int × List Int) (fun s => [(1,AV.v k1 (D.sl 1 (l.map ei)),none),(5,AV.pl 5 0 [],some (Rt.vir [C.own (D.sl 1 [])])),(16,AV.v k1 (D.sl 1 (l.map ei)),none),(17,AV.v false (di (l.length : Nat)),none),(18,AV.v false (di ((s.1.length : Nat) : Int)),none)]) (fun s => l = s.1 ++ s.2) (fun s => s.2.length) ([],l) (by simp) rfl ?_
 rintro ⟨pre,rest⟩ y1
 simp only at y1
 have y3 : l.length = pre.length + rest.length:=by rw [y1,List.length_append]
 rcases rest with _ | ⟨d,rest⟩
 ·simp only [List.length_nil] at y3
  have c1 : ¬ (pre.length : Int) < (l.length : Int):=by omega
  have h531:=t531 true [] (l.length : Int) (by simp)
  have h531f:=t531 false [] (l.length : Int) (by simp)
  simp only [List.map_nil,List.nil_append] at h531 h531f
  unfold pl530_1
  refine Ua (J3 c1 h531 h531f) ?_
  have hen:=encN_len (l.length : Int)
  refine wp_loopI (σ:=List Int × List Int × List Int) (fun s => [(5,AV.pl 5 0 [],some (Rt.vir [C.own (D.sl 1 (s.2.2.map eb))])),(31,AV.v k1 (D.sl 1 (l.map ei)),none),(32,AV.v false (di (l.length : Nat)),none),(33,AV.v false (di ((s.1.length : Nat) : Int)),none)]) (fun s => l = s.1 ++ s.2.1 ∧ encNs l = s.2.2 ++ s.2.1.flatMap encN ∧ s.2.2.length ≤ 5 + 5 * s.1.length) (fun s => s.2.1.length) ([],l,encN (l.length : Int)) (by simp) ⟨rfl,rfl,by simpa using hen⟩ ?_
  rintro ⟨pre,rest,a⟩ ⟨z1,z2,z4⟩
  simp only at z1 z2 z4
  have z3 : l.length = pre.length + rest.length:=by rw [z1,List.length_append]
  rcases rest with _ | ⟨d,rest⟩
  ·simp only [List.length_nil] at z3
   have c1 : ¬ (pre.length : Int) < (l.length : Int):=by omega
   simp only [List.flatMap_nil,List.append_nil] at z2
   unfold pl530_0
   refine Ua (J2 c1 z2) ?_
   simp [pf530,z2]
  ·simp only [List.length_cons] at z3
   have hg : l[pre.length]? = some d:=by rw [z1]; simp
   obtain ⟨hlt,hge⟩:=List.getElem?_eq_some_iff.1 hg
   have c1 : (pre.length : Int) < (l.length : Int):=by omega
   have hw:=Wi ((pre.length : Int) + 1)
   have ha : a.length ≤ 1048576:=by omega
   have hed:=encN_len d
   unfold pl530_0
   refine Ua (J6 hg hge hlt c1 hw ha) ?_
   exact ⟨(pre ++ [d],rest,a ++ encN d),(by simp; try omega),⟨by rw [z1]; simp,by rw [z2]; simp,by simp only [List.length_append,List.length_cons,List.length_nil]; omega⟩,by simp⟩
 ·simp only [List.length_cons] at y3
  have hg : l[pre.length]? = some d:=by rw [y1]; simp
  have hnb:=numB_of (hn d (List.mem_of_getElem? hg))
  obtain ⟨hlt,hge⟩:=List.getElem?_eq_some_iff.1 hg
  have c1 : (pre.length : Int) < (l.length : Int):=by omega
  have hw:=Wi ((pre.length : Int) + 1)
  unfold pl530_1
  refine Ua (J6 hg hge hlt c1 hw hnb) ?_
  exact ⟨(pre ++ [d],rest),(by simp; try omega),by rw [y1]; simp,by simp⟩

/-- What the columns after the first j add. -/
def colsG (l : List XRow) (n j : Nat) : List Int:=if l.length = 0 then [] else colsEnc l n j
theorem colsG_zero (l : List XRow) (j : Nat) : colsG l 0 j = []:=by unfold colsG colsEnc; split <;> rfl
theorem colsG_nil {l : List XRow} (h : l.length = 0) (n j : Nat) : colsG l n j = []:=by unfold colsG; rw [if_pos h]
theorem colsG_succ {l : List XRow} (h : ¬ l.length = 0) (n j : Nat) : colsG l (n + 1) j = encN ((encC (colN j l)).length : Int) ++ encC (colN j l) ++ colsG l n (j + 1):=by
 unfold colsG; rw [if_neg h,if_neg h]; try rfl

theorem putGF_eq {cols : List Int} {l : List XRow} (h : rowsOkF cols l = true) : putGF cols l = encNs (l.map (·.Id)) ++ colsG l cols.length 0:=by
 unfold putGF colsG; rw [if_pos h]

theorem rowsOkF_props {cols : List Int} {l : List XRow} (h : rowsOkF cols l = true) : colsOk cols = true ∧ l.length ≤ 12 ∧ ∀ n ∈ l.map (·.Id),-1000000000 ≤ n ∧ n ≤ 1000000000:=by
 simp only [rowsOkF,Bool.and_eq_true,decide_eq_true_eq] at h
 refine ⟨h.1,h.2.1,fun n hn => ?_⟩
 obtain ⟨r,hr,rfl⟩:=List.mem_map.1 hn
 have:=rowsL_ids h.2.2 r hr
 omega
theorem colsOk_len {cols : List Int} (h : colsOk cols = true) : 1 ≤ cols.length ∧ cols.length ≤ 3:=by
 simp only [colsOk,Bool.and_eq_true,decide_eq_true_eq] at h
 omega

@[simp] theorem t498 (k0 k1 : Bool) (cols : List Int) (l : List XRow) (h : cols.length ≤ 1048576) (h2 : l.length ≤ 1048576) (hs : XRow.sms l) : Gw TT 498 [.one (.ro k0 (.sl 1 (cols.map ei))),.one (.ro k1 (.sl 2 (l.map XRow.e)))] = some (.one (.own (.sl 1 ((putGF cols l).map eb))),[]):=by
 refine Ga pf498 pb498 ?_
 unfold pb498
 cases hro : rowsOkF cols l with
 | false =>
  have hp : putGF cols l = []:=by unfold putGF; rw [hro]; try rfl
  refine Uw (J5 h h2 hs hro hp) ?_
  simp [pf498,hp]
 | true =>
 obtain ⟨hco,hl12,hid⟩:=rowsOkF_props hro
 obtain ⟨hc1,hc2⟩:=colsOk_len hco
 refine Uw (J4 h h2 hs hro) ?_
 refine wp_loopI (σ:=List XRow × List XRow) (fun s => [(0,AV.v k0 (D.sl 1 (cols.map ei)),none),(1,AV.v k1 (D.sl 2 (l.map XRow.e)),none),(5,AV.pl 5 0 [],some (Rt.vir [C.own (D.sl 1 ((s.1.map (·.Id)).map ei))])),(16,AV.v k1 (D.sl 2 (l.map XRow.e)),none),(17,AV.v false (di (l.length : Nat)),none),(18,AV.v false (di ((s.1.length : Nat) : Int)),none)]) (fun s => l = s.1 ++ s.2) (fun s => s.2.length) ([],l) (by simp) rfl ?_
 rintro ⟨pre,rest⟩ y1
 simp only at y1
 have y3 : l.length = pre.length + rest.length:=by rw [y1,List.length_append]
 rcases rest with _ | ⟨⟨y_Id,y_L⟩,rest⟩
 ·simp only [List.length_nil] at y3
  simp only [List.append_nil] at y1
  have c1 : ¬ (pre.length : Int) < (l.length : Int):=by omega
  have h530 : ∀ k0 k1 : Bool,Gw TT 530 [.one (.ro k0 (.sl 1 [])),.one (.ro k1 (.sl 1 ((pre.map (·.Id)).map ei)))] = some (.one (.own (.sl 1 ((encNs (l.map (·.Id))).map eb))),[]):=fun k0 k1 => by
   rw [← y1]; exact t530 k0 k1 (l.map (·.Id)) (by simp; omega) hid
  have h530b:=fun k0 k1 : Bool => h530 k0 k1
  simp at h530b
  unfold pl498_1
  refine Uw (J2 c1 h530b) ?_
  have hnl : (encNs (l.map (·.Id))).length ≤ 70:=by
   have:=encN_len ((l.map (·.Id)).length : Int)
   have:=flatN_len (l.map (·.Id))
   simp only [encNs,List.length_append]
   rw [List.length_map] at *
   omega
  refine wp_loopI (σ:=Nat × Nat × List Int) (fun s => [(1,AV.v k1 (D.sl 2 (l.map XRow.e)),none),(8,AV.pl 8 0 [],some (Rt.vir [C.own (D.sl 1 (s.2.2.map eb))])),(31,AV.v false (di (cols.length : Nat)),none),(32,AV.v false (di (s.1 : Nat)),none)]) (fun s => s.1 + s.2.1 = cols.length ∧ putGF cols l = s.2.2 ++ colsG l s.2.1 s.1 ∧ s.2.2.length ≤ 70 + 1100 * s.1) (fun s => s.2.1) (0,cols.length,encNs (l.map (·.Id))) (by simp) ⟨by simp,putGF_eq hro,by simpa using hnl⟩ ?_
  rintro ⟨j,n,a⟩ ⟨z1,z2,z4⟩
  simp only at z1 z2 z4
  rcases n with _ | n
  ·have c1 : ¬ (j : Int) < (cols.length : Int):=by omega
   rw [colsG_zero,List.append_nil] at z2
   unfold pl498_0
   refine Uw (J2 c1 z2) ?_
   simp [pf498,z2]
  ·have c1 : (j : Int) < (cols.length : Int):=by omega
   have hj : j ≤ 1048576:=by omega
   have hw:=Wi ((j : Int) + 1)
   by_cases h0 : l.length = 0
   ·have c2 : ¬ (0 : Int) < (l.length : Int):=by omega
    rw [colsG_nil h0] at z2
    have hne : l = []:=List.length_eq_zero_iff.1 h0
    unfold pl498_0
    refine Uw (J4 c1 hw c2 hne) ?_
    exact ⟨(j + 1,n,a),(by simp; try omega),⟨by simp only; omega,by rw [z2,colsG_nil h0],by simp only; omega⟩,by simp⟩
   ·have c2 : (0 : Int) < (l.length : Int):=by omega
    rw [colsG_succ h0] at z2
    have hcl : (colN j l).length ≤ 1048576:=Nat.le_trans (colN_len j l) h2
    have hcs:=colN_sms (k:=j) hs
    have ha : a.length ≤ 1048576:=by omega
    have hec:=encC_len (colN j l)
    have hen:=encN_len ((encC (colN j l)).length : Int)
    have hq : a.length + (encN ((encC (colN j l)).length : Int)).length + (encC (colN j l)).length ≤ 70368744177664:=by omega
    have hq2 : a.length + ((encN ((encC (colN j l)).length : Int)).length + (encC (colN j l)).length) ≤ 70368744177664:=by omega
    have hfl : flatD (List.map eb (encC (colN j l))) = true:=by simp [flatD]
    have hne : ¬ l = []:=fun e => h0 (by rw [e]; rfl)
    unfold pl498_0
    refine Uw (J8 c1 hw c2 hne h2 hs hj (J5 hcl hcs ha hq hq2)) ?_ ?_
    all_goals repeat intro hc
    all_goals first | exact absurd ‹l = []› hne | exact ⟨(j + 1,n,a ++ encN ((encC (colN j l)).length : Int) ++ encC (colN j l)),(by simp; try omega),⟨by simp only; omega,by rw [z2]; simp,by simp only [List.length_append]; omega⟩,by simp⟩
 ·simp only [List.length_cons] at y3
  have hg : l[pre.length]? = some ⟨y_Id,y_L⟩:=by rw [y1]; simp
  obtain ⟨hlt,hge⟩:=List.getElem?_eq_some_iff.1 hg
  have c1 : (pre.length : Int) < (l.length : Int):=by omega
  have hw:=Wi ((pre.length : Int) + 1)
  have hq : (pre.length + 1) * 8 ≤ 70368744177664:=by omega
  unfold pl498_1
  refine Uw (J6 hg hge hlt c1 hw hq) ?_
  exact ⟨(pre ++ [⟨y_Id,y_L⟩],rest),(by simp; try omega),by rw [y1]; simp,by simp⟩

def ggV (r : Option (List XRow)) : V:=match r with
 | some l => .tup [.one (.own (.sl 2 (l.map XRow.e))),vb true]
 | none => .tup [.one (.own (.sl 2 [])),vb false]
@[simp] theorem ggV_some (l : List XRow) : ggV (some l) = .tup [.one (.own (.sl 2 (l.map XRow.e))),vb true]:=rfl
@[simp] theorem ggV_none : ggV none = .tup [.one (.own (.sl 2 [])),vb false]:=rfl

theorem colsB_mem : ∀ {l : List Int},colsB l = true → ∀ p ∈ l,p = 1 ∨ p = 2
 | [],_,p,h => by simp at h
 | q :: l,hb,p,h => by
  simp only [colsB] at hb
  split at hb
  ·cases hb
  ·rcases List.mem_cons.1 h with rfl | h
   ·omega
   ·exact colsB_mem hb p h
theorem colsOk_mem {l : List Int} (h : colsOk l = true) : ∀ p ∈ l,p = 1 ∨ p = 2:=by
 simp only [colsOk,Bool.and_eq_true] at h
 exact colsB_mem h.1

theorem getCols_no1 {b : List Int} {m ty u : Int} {cs : List Int} {rows : List XRow} (h : gN b u = none) : getCols b m (ty :: cs) u rows = none:=by
 simp only [getCols,h]
theorem getCols_no2 {b : List Int} {m ty u n t : Int} {cs : List Int} {rows : List XRow} (h : gN b u = some (n,t)) (h2 : ¬ (0 ≤ n ∧ n ≤ (b.length : Int) - t)) : getCols b m (ty :: cs) u rows = none:=by
 simp only [getCols,h]; rw [if_neg h2]
theorem getCols_no3 {b : List Int} {m ty u n t : Int} {cs : List Int} {rows : List XRow} (h : gN b u = some (n,t)) (h2 : 0 ≤ n ∧ n ≤ (b.length : Int) - t) (h3 : decC (segB b t n) ty m = none) : getCols b m (ty :: cs) u rows = none:=by
 simp only [getCols,h]; rw [if_pos h2,h3]
theorem getCols_yes {b : List Int} {m ty u n t : Int} {cs : List Int} {rows : List XRow} {vs : List XVal} (h : gN b u = some (n,t)) (h2 : 0 ≤ n ∧ n ≤ (b.length : Int) - t) (h3 : decC (segB b t n) ty m = some vs) : getCols b m (ty :: cs) u rows = getCols b m cs (t + n) (addCol rows vs):=by
 simp only [getCols,h]; rw [if_pos h2,h3]

theorem decC_sms {b : List Int} {ty k : Int} {l : List XVal} (hb : bytesOk b) (hty : ty = 1 ∨ ty = 2) (h : decC b ty k = some l) : XVal.sms l:=by
 have:=(decC_some hb h).2.1
 exact typF_sms (by omega)
theorem addCol_sms {j : Nat} (hj : j < 1048576) : ∀ {rows : List XRow} {vs : List XVal},allL j rows → XRow.sms rows → XVal.sms vs → XRow.sms (addCol rows vs)
 | [],_,_,_,_ => fun r hr => by simp [addCol] at hr
 | _ :: _,[],_,_,_ => fun r hr => by simp [addCol] at hr
 | r :: rows,v :: vs,ha,hr,hv => fun x hx => by
  simp only [addCol] at hx
  rcases List.mem_cons.1 hx with rfl | hx
  ·have h1:=ha r (by simp)
   have h2:=hr r (by simp)
   refine ⟨by simp; omega,fun y hy => ?_⟩
   simp only [List.mem_append,List.mem_singleton] at hy
   rcases hy with hy | rfl
   ·exact h2.2 y hy
   ·exact hv y (by simp)
  ·exact addCol_sms hj (rows:=rows) (vs:=vs) (fun y hy => ha y (by simp [hy])) (fun y hy => hr y (by simp [hy])) (fun y hy => hv y (by simp [hy])) x hx
theorem rows0_all (ids : List Int) : allL 0 (rows0 ids):=fun r hr => by
 simp only [rows0,List.mem_map] at hr
 obtain ⟨i,_,rfl⟩:=hr; rfl
theorem rows0_sms (ids : List Int) : XRow.sms (rows0 ids):=fun r hr => by
 simp only [rows0,List.mem_map] at hr
 obtain ⟨i,_,rfl⟩:=hr
 exact ⟨by simp,fun v hv => by simp at hv⟩
theorem addCol_nil (vs : List XVal) : addCol [] vs = []:=rfl

theorem ggF_no {cols b : List Int} (h : gNs b 0 = none) : ggF cols b = none:=by unfold ggF; rw [h]
theorem ggF_nc {cols b : List Int} (h : ¬ colsOk cols = true) : ggF cols b = none:=by
 unfold ggF; split
 ·rw [if_neg h]
 ·rfl
theorem ggF_ng {cols b ids : List Int} {u : Int} (h : gNs b 0 = some (ids,u)) (h2 : gCols b cols u ids = none) : ggF cols b = none:=by
 unfold ggF; rw [h]; simp only; rw [h2]; split <;> rfl
theorem ggF_yes {cols b ids : List Int} {u t : Int} {rows : List XRow} (h : gNs b 0 = some (ids,u)) (h1 : colsOk cols = true) (h2 : gCols b cols u ids = some (rows,t)) : ggF cols b = if t = (b.length : Int) ∧ rowsOkF cols rows = true then some rows else none:=by
 unfold ggF; rw [h]; simp only; rw [h2,if_pos h1]
theorem ggF_big {cols b ids : List Int} {u : Int} (hb : bytesOk b) (h : gNs b 0 = some (ids,u)) (h2 : 12 < ids.length) : ggF cols b = none:=by
 by_cases h1 : colsOk cols = true
 ·cases hg : gCols b cols u ids with
  | none => exact ggF_ng h hg
  | some q =>
   obtain ⟨rows,t⟩:=q
   have hl:=gCols_len hb h hg
   rw [ggF_yes h h1 hg,if_neg]
   intro e
   have:=(rowsOkF_props e.2).2.1
   omega
 ·exact ggF_nc h1

theorem t463 (k0 k1 : Bool) (cols b : List Int) (h : cols.length ≤ 1048576) (h2 : b.length ≤ 1048576) (hb : bytesOk b) : Gw TT 463 [.one (.ro k0 (.sl 1 (cols.map ei))),.one (.ro k1 (.sl 1 (b.map eb)))] = some (ggV (ggF cols b),[]):=by
 refine Ga pf463 pb463 ?_
 unfold pb463
 cases hg : gNs b 0 with
 | none =>
  have hd : ggF cols b = none:=ggF_no hg
  refine Uw (J5 h h2 hb hg hd) ?_
  simp [pf463,hd]
 | some q =>
 obtain ⟨ids,u⟩:=q
 obtain ⟨i1,i2,i3,i4,i5⟩:=gNs_can hb hg
 by_cases hco : colsOk cols = true
 ·skip
  obtain ⟨cl1,cl2⟩:=colsOk_len hco
  have cty:=colsOk_mem hco
  refine Uw (J5 h h2 hb hg hco) ?_
  refine wp_loopI (σ:=List Int × List Int) (fun s => [(0,AV.v k0 (D.sl 1 (cols.map ei)),none),(1,AV.v k1 (D.sl 1 (b.map eb)),none),(6,AV.pl 6 0 [],some (Rt.vir [C.own (D.sl 1 (ids.map ei)),C.ro false (di u),C.ro false (D.bool true)])),(7,AV.v false (di u),none),(9,AV.pl 9 0 [],some (Rt.vir [C.own (D.sl 2 ((rows0 s.1).map XRow.e))])),(33,AV.pl 6 0 [],none),(34,AV.v false (di (ids.length : Nat)),none),(35,AV.v false (di ((s.1.length : Nat) : Int)),none)]) (fun s => ids = s.1 ++ s.2) (fun s => s.2.length) ([],ids) (by simp [rows0]) rfl ?_
  rintro ⟨pre,rest⟩ y1
  simp only at y1
  have y3 : ids.length = pre.length + rest.length:=by rw [y1,List.length_append]
  rcases rest with _ | ⟨d,rest⟩
  ·simp only [List.length_nil] at y3
   simp only [List.append_nil] at y1
   subst y1
   have c1 : ¬ (ids.length : Int) < (ids.length : Int):=by omega
   unfold pl463_2
   refine Uw c1 ?_
   have hr0l : (rows0 ids).length = ids.length:=by simp [rows0]
   by_cases h0 : ids.length = 0
   ·have hne : ids = []:=List.length_eq_zero_iff.1 h0
    subst hne
    have hgc : gCols b cols u [] = some ([],u):=rfl
    refine wp_loopI (σ:=List Int × List Int × Int × List XRow) (fun s => [(0,AV.v k0 (D.sl 1 (cols.map ei)),none),(1,AV.v k1 (D.sl 1 (b.map eb)),none),(6,AV.pl 6 0 [],some (Rt.vir [C.own (D.sl 1 []),C.ro false (di u),C.ro false (D.bool true)])),(7,AV.v false (di s.2.2.1),none),(9,AV.pl 9 0 [],some (Rt.vir [C.own (D.sl 2 (s.2.2.2.map XRow.e))])),(45,AV.v k0 (D.sl 1 (cols.map ei)),none),(46,AV.v false (di (cols.length : Nat)),none),(47,AV.v false (di ((s.1.length : Nat) : Int)),none)]) (fun s => s = ([],cols,u,[])) (fun _ => 0) ([],cols,u,[]) (by simp [rows0]) rfl ?_
    rintro s rfl
    obtain ⟨ty,hgt⟩ : ∃ ty,cols[0]? = some ty:=⟨_,List.getElem?_eq_getElem (by omega)⟩
    obtain ⟨hlt,hge⟩:=List.getElem?_eq_some_iff.1 hgt
    have c1 : (0 : Int) < (cols.length : Int):=by omega
    have hnro:=fun k0 k1 : Bool => t497 k0 k1 cols [] h (by simp) (fun r hr => by simp at hr)
    simp only [List.map_nil] at hnro
    have hnput:=fun k0 k1 : Bool => t498 k0 k1 cols [] h (by simp) (fun r hr => by simp at hr)
    simp only [List.map_nil] at hnput
    unfold pl463_1
    skip
    cases hro : rowsOkF cols [] with
    | false =>
     have hd : ggF cols b = none:=by rw [ggF_yes hg hco hgc,if_neg (by rw [hro]; simp)]
     refine Uw (J8 c1 hgt hlt hge hnro hnput h (J2 hro hd)) ?_
     all_goals refine blkQ_exit' (by decide) ?_
     refine Uw (J8 c1 hgt hlt hge hnro hnput h (J2 hro hd)) ?_
     simp [pf463,hd]
    | true =>
     have hput:=ggF_put hb hg hgc hro
     have hse:=strEq (putGF_ok cols []) hb
     by_cases e3 : putGF cols [] = b
     ·have e4 : ((strOf (putGF cols [])).toList == (strOf b).toList) = true:=by rw [hse]; simpa using e3
      have hd : ggF cols b = some []:=by rw [ggF_yes hg hco hgc,if_pos ⟨hput.1 e3.symm,hro⟩]
      refine Uw (J8 c1 hgt hlt hge hnro hnput h (J3 hro e4 hd)) ?_
      all_goals refine blkQ_exit' (by decide) ?_
      refine Uw (J8 c1 hgt hlt hge hnro hnput h (J3 hro e4 hd)) ?_
      simp [pf463,hd]
     ·have e4 : ((strOf (putGF cols [])).toList == (strOf b).toList) = false:=by rw [hse]; simpa using e3
      have hd : ggF cols b = none:=by rw [ggF_yes hg hco hgc,if_neg (fun e => e3 (hput.2 e.1).symm)]
      refine Uw (J8 c1 hgt hlt hge hnro hnput h (J3 hro e4 hd)) ?_
      all_goals refine blkQ_exit' (by decide) ?_
      refine Uw (J8 c1 hgt hlt hge hnro hnput h (J3 hro e4 hd)) ?_
      simp [pf463,hd]
   ·have hne : ¬ ids = []:=fun e => h0 (by rw [e]; rfl)
    have hgce : gCols b cols u ids = getCols b (ids.length : Int) cols u (rows0 ids):=by unfold gCols; rw [if_neg h0]
    have hip : (0 : Int) < (ids.length : Int):=by omega
    refine wp_loopI (σ:=List Int × List Int × Int × List XRow) (fun s => [(0,AV.v k0 (D.sl 1 (cols.map ei)),none),(1,AV.v k1 (D.sl 1 (b.map eb)),none),(6,AV.pl 6 0 [],some (Rt.vir [C.own (D.sl 1 (ids.map ei)),C.ro false (di u),C.ro false (D.bool true)])),(7,AV.v false (di s.2.2.1),none),(9,AV.pl 9 0 [],some (Rt.vir [C.own (D.sl 2 (s.2.2.2.map XRow.e))])),(45,AV.v k0 (D.sl 1 (cols.map ei)),none),(46,AV.v false (di (cols.length : Nat)),none),(47,AV.v false (di ((s.1.length : Nat) : Int)),none)]) (fun s => cols = s.1 ++ s.2.1 ∧ gCols b cols u ids = getCols b (ids.length : Int) s.2.1 s.2.2.1 s.2.2.2 ∧ s.2.2.2.length = ids.length ∧ allL s.1.length s.2.2.2 ∧ XRow.sms s.2.2.2 ∧ 0 ≤ s.2.2.1 ∧ s.2.2.1 ≤ (b.length : Int)) (fun s => s.2.1.length) ([],cols,u,rows0 ids) (by simp) ⟨rfl,hgce,hr0l,rows0_all ids,rows0_sms ids,i3,i4⟩ ?_
    rintro ⟨pre,rest,v,rows⟩ ⟨z1,z2,z4,z5,z6,z7,z8⟩
    simp only at z1 z2 z4 z5 z6 z7 z8
    have z3 : cols.length = pre.length + rest.length:=by rw [z1,List.length_append]
    rcases rest with _ | ⟨ty,rest⟩
    ·simp only [List.length_nil] at z3
     have hgc : gCols b cols u ids = some (rows,v):=z2
     have hrl2 : rows.length ≤ 1048576:=by omega
     have hrs:=z6
     have c1 : ¬ (pre.length : Int) < (cols.length : Int):=by omega
     unfold pl463_1
     skip
     cases hro : rowsOkF cols rows with
     | false =>
      have hd : ggF cols b = none:=by rw [ggF_yes hg hco hgc,if_neg (by rw [hro]; simp)]
      refine Uw (J6 c1 h hro hrl2 hrs hd) ?_
      simp [pf463,hd]
     | true =>
      have hput:=ggF_put hb hg hgc hro
      have hse:=strEq (putGF_ok cols rows) hb
      by_cases e3 : putGF cols rows = b
      ·have e4 : ((strOf (putGF cols rows)).toList == (strOf b).toList) = true:=by rw [hse]; simpa using e3
       have hd : ggF cols b = some rows:=by rw [ggF_yes hg hco hgc,if_pos ⟨hput.1 e3.symm,hro⟩]
       refine Uw (J7 c1 h hro hrl2 hrs e4 hd) ?_
       simp [pf463,hd]
      ·have e4 : ((strOf (putGF cols rows)).toList == (strOf b).toList) = false:=by rw [hse]; simpa using e3
       have hd : ggF cols b = none:=by rw [ggF_yes hg hco hgc,if_neg (fun e => e3 (hput.2 e.1).symm)]
       refine Uw (J7 c1 h hro hrl2 hrs e4 hd) ?_
       simp [pf463,hd]
    ·simp only [List.length_cons] at z3
     have hgt : cols[pre.length]? = some ty:=by rw [z1]; simp
     have hty:=cty ty (List.mem_of_getElem? hgt)
     obtain ⟨hlt,hge⟩:=List.getElem?_eq_some_iff.1 hgt
     have c1 : (pre.length : Int) < (cols.length : Int):=by omega
     have hw:=Wi ((pre.length : Int) + 1)
     unfold pl463_1
     cases hgn : gN b v with
     | none =>
      have hd : ggF cols b = none:=ggF_ng hg (by rw [z2,getCols_no1 hgn])
      refine Uw (J8 hgt hge hlt c1 hw hne hip (J4 h2 hb hgn hd)) ?_ ?_
      all_goals repeat intro hc
      all_goals first | exact absurd ‹ids = []› hne | (simp [pf463,hd]; done)
     | some q =>
      obtain ⟨n,t⟩:=q
      obtain ⟨g1,g2,g3,g4,g5⟩:=gN_can hb hgn
      have w1:=Wi ((b.length : Int) - t)
      by_cases hwi : 0 ≤ n ∧ n ≤ (b.length : Int) - t
      ·obtain ⟨nn,rfl⟩:=Int.eq_ofNat_of_zero_le hwi.1
       obtain ⟨tt,rfl⟩:=Int.eq_ofNat_of_zero_le (show (0 : Int) ≤ t by omega)
       have w2:=Wi ((tt : Int) + (nn : Int))
       have w3 : ((tt : Int) + (nn : Int)).toNat = tt + nn:=by omega
       have p1:=hwi.1
       have p2:=hwi.2
       have p3 : tt + nn ≤ b.length:=by omega
       have p4 : (tt : Int) + (nn : Int) ≤ (b.length : Int):=by omega
       have p5 : (tt : Int) ≤ (tt : Int) + (nn : Int):=by omega
       have hsb : bytesOk (segB b tt nn):=bytesOk_drop _ (bytesOk_take _ hb)
       have hsl : (segB b tt nn).length ≤ 1048576:=by simp only [segB,List.length_drop,List.length_take]; omega
       have hsg : List.drop tt (List.take (tt + nn) (List.map eb b)) = List.map eb (segB b tt nn):=by
        simp only [segB,List.map_drop,List.map_take]; rw [w3,show ((tt : Int)).toNat = tt by omega]
       have p6 : (0 : Int) ≤ (tt : Int) + (nn : Int):=by omega
       have kk : 1 ≤ ids.length ∧ ids.length ≤ 64:=by omega
       have kk2 : (1 : Int) ≤ (ids.length : Int) ∧ (ids.length : Int) ≤ 64:=by omega
       have hdc:=fun kb : Bool => t496 kb (segB b tt nn) ty (ids.length : Int) hsl hsb hty kk2
       cases hdv : decC (segB b tt nn) ty (ids.length : Int) with
       | none =>
        have hd : ggF cols b = none:=ggF_ng hg (by rw [z2,getCols_no3 hgn hwi hdv])
        rw [hdv] at hdc
        refine Uw (J8 hgt hge hlt c1 hw hne hip (J8 h2 hb hgn w1 w2 w3 p1 (J8 p2 p3 p4 p5 p6 hsg hdc hd))) ?_ ?_
        all_goals repeat intro hc
        all_goals first | exact absurd ‹ids = []› hne | (simp [pf463,hd]; done)
       | some vs =>
        rw [hdv] at hdc
        have hvl:=(decC_some hsb hdv).1
        have hvs:=decC_sms hsb hty hdv
        rw [getCols_yes hgn hwi hdv] at z2
        have hrv : rows.length = vs.length:=by omega
        have hal:=addCol_len hrv
        refine Uw (J8 hgt hge hlt c1 hw hne hip (J8 h2 hb hgn w1 w2 w3 p1 (J7 p2 p3 p4 p5 p6 hsg hdc))) ?_ ?_
        all_goals repeat intro hc
        all_goals first | exact absurd ‹ids = []› hne | skip
        refine wp_loopI (σ:=List XRow × List XRow × List XVal × List XVal) (fun s => [(0,AV.v k0 (D.sl 1 (cols.map ei)),none),(1,AV.v k1 (D.sl 1 (b.map eb)),none),(6,AV.pl 6 0 [],some (Rt.vir [C.own (D.sl 1 (ids.map ei)),C.ro false (di u),C.ro false (D.bool true)])),(9,AV.pl 9 0 [],some (Rt.vir [C.own (D.sl 2 (s.1.map XRow.e ++ s.2.1.map XRow.e))])),(14,AV.v false (di (nn : Nat)),none),(15,AV.v false (di (tt : Nat)),none),(16,AV.v false (.bool true),some (Rt.vir [C.own (D.sl 3 (vs.map XVal.e)),C.ro false (D.bool true)])),(17,AV.pl 16 0 [],none),(45,AV.v k0 (D.sl 1 (cols.map ei)),none),(46,AV.v false (di (cols.length : Nat)),none),(47,AV.v false (di (pre.length : Nat)),none),(88,AV.v false (di (rows.length : Nat)),none),(89,AV.v false (di ((s.1.length : Nat) : Int)),none)]) (fun s => addCol rows vs = s.1 ++ addCol s.2.1 s.2.2.2 ∧ s.2.1.length = s.2.2.2.length ∧ vs = s.2.2.1 ++ s.2.2.2 ∧ s.2.2.1.length = s.1.length ∧ allL pre.length s.2.1) (fun s => s.2.1.length) ([],rows,[],vs) (by simp) ⟨rfl,hrv,rfl,rfl,z5⟩ ?_
        rintro ⟨A,R,P,W⟩ ⟨x1,x2,x3,x4,x5⟩
        simp only at x1 x2 x3 x4 x5
        have x6 : vs.length = P.length + W.length:=by rw [x3,List.length_append]
        rcases R with _ | ⟨⟨y_Id,y_L⟩,R⟩
        ·have hWn : W = []:=List.length_eq_zero_iff.1 (by simpa using x2.symm)
         subst hWn
         simp only [List.length_nil] at x6
         simp only [addCol_nil,List.append_nil] at x1
         have c1 : ¬ (A.length : Int) < (rows.length : Int):=by omega
         have c2 : ¬ (A.length : Int) < (ids.length : Int):=by omega
         unfold pl463_0
         refine Uw (J5 c1 c2 w2 hw x1) ?_
         exact ⟨(pre ++ [ty],rest,(tt : Int) + (nn : Int),A),(by simp; try omega),⟨by rw [z1]; simp,by rw [z2,x1],by simp only; rw [← x1]; omega,by simp only; rw [← x1]; simpa using addCol_all z5,by simp only; rw [← x1]; exact addCol_sms (by omega) z5 z6 hvs,by simp only; omega,by simp only; omega⟩,by simp⟩
        ·rcases W with _ | ⟨⟨dT,dN,dS⟩,W⟩
         ·simp at x2
         ·simp only [List.length_cons] at x6 x2
          have c1 : (A.length : Int) < (rows.length : Int):=by omega
          have c2 : (A.length : Int) < (ids.length : Int):=by omega
          have hw3:=Wi ((A.length : Int) + 1)
          have hgv : vs[A.length]? = some ⟨dT,dN,dS⟩:=by rw [x3,← x4]; simp
          obtain ⟨hvlt,hvge⟩:=List.getElem?_eq_some_iff.1 hgv
          have hyl:=x5 ⟨y_Id,y_L⟩ (by simp)
          simp only at hyl
          have hq : (y_L.length + 1) * 32 ≤ 70368744177664:=by omega
          have q1 : (A.length : Int) < (A.length : Int) + ((R.length : Int) + 1):=by omega
          have q2 : A.length < A.length + (R.length + 1):=by omega
          unfold pl463_0
          refine Uw (J8 c1 c2 hw3 q1 q2 hgv hvlt (J2 hvge hq)) ?_
          exact ⟨(A ++ [⟨y_Id,y_L ++ [⟨dT,dN,dS⟩]⟩],R,P ++ [⟨dT,dN,dS⟩],W),(by simp; try omega),⟨by rw [x1]; simp [addCol],by simp only; omega,by rw [x3]; simp,by simp [x4],fun r hr => x5 r (by simp [hr])⟩,by simp⟩
      ·have hd : ggF cols b = none:=ggF_ng hg (by rw [z2,getCols_no2 hgn hwi])
       have hwi2 : (decide (0 ≤ n) && decide (n ≤ (b.length : Int) - t)) = false:=by simp; omega
       by_cases hn0 : 0 ≤ n
       ·have p1 : ¬ n ≤ (b.length : Int) - t:=fun e => hwi ⟨hn0,e⟩
        refine Uw (J8 hgt hge hlt c1 hw hne hip (J7 h2 hb hgn w1 hn0 p1 hd)) ?_ ?_
        all_goals repeat intro hc
        all_goals first | exact absurd ‹ids = []› hne | (simp [pf463,hd]; done)
       ·refine Uw (J8 hgt hge hlt c1 hw hne hip (J6 h2 hb hgn w1 hn0 hd)) ?_ ?_
        all_goals repeat intro hc
        all_goals first | exact absurd ‹ids = []› hne | (simp [pf463,hd]; done)
  ·simp only [List.length_cons] at y3
   have hgi : ids[pre.length]? = some d:=by rw [y1]; simp
   obtain ⟨hlt,hge⟩:=List.getElem?_eq_some_iff.1 hgi
   have c1 : (pre.length : Int) < (ids.length : Int):=by omega
   have hw:=Wi ((pre.length : Int) + 1)
   have hq : (pre.length + 1) * 32 ≤ 70368744177664:=by omega
   have hrp : (rows0 pre).length = pre.length:=by simp [rows0]
   have hq2 : ((rows0 pre).length + 1) * 32 ≤ 70368744177664:=by omega
   unfold pl463_2
   refine Uw (J8 hgi hge hlt c1 hw hrp hq hq2) ?_
   exact ⟨(pre ++ [d],rest),(by simp [rows0]; try omega),by rw [y1]; simp,by simp⟩
 ·have hd : ggF cols b = none:=ggF_nc hco
  refine Uw (J6 h h2 hb hg hco hd) ?_
  simp [pf463,hd]

theorem t462 (k0 k1 : Bool) (cols b : List Int) (h : cols.length ≤ 1048576) (h2 : b.length ≤ 1048576) (hb : bytesOk b) : Gw TT 462 [.one (.ro k0 (.sl 1 (cols.map ei))),.one (.ro k1 (.sl 1 (b.map eb)))] = some (ggV (ggF cols b),[]):=by
 refine Ga pf462 pb462 ?_
 unfold pb462
 cases hg : gNs b 0 with
 | none =>
  have hd : ggF cols b = none:=ggF_no hg
  refine Ud (J5 h h2 hb hg hd) ?_
  simp [pf462,hd]
 | some q =>
 obtain ⟨ids,u⟩:=q
 obtain ⟨i1,i2,i3,i4,i5⟩:=gNs_can hb hg
 by_cases hco : colsOk cols = true
 ·skip
  by_cases hbig : 12 < ids.length
  ·have hd : ggF cols b = none:=ggF_big hb hg hbig
   have hbg : (12 : Int) < (ids.length : Int):=by omega
   refine Ud (J7 h h2 hb hg hco hbg hd) ?_
   simp [pf462,hd]
  have hbg : ¬ (12 : Int) < (ids.length : Int):=by omega
  obtain ⟨cl1,cl2⟩:=colsOk_len hco
  have cty:=colsOk_mem hco
  refine Ud (J6 h h2 hb hg hco hbg) ?_
  refine wp_loopI (σ:=List Int × List Int) (fun s => [(0,AV.v k0 (D.sl 1 (cols.map ei)),none),(1,AV.v k1 (D.sl 1 (b.map eb)),none),(6,AV.pl 6 0 [],some (Rt.vir [C.own (D.sl 2 [])])),(7,AV.pl 7 0 [],some (Rt.vir [C.own (D.sl 1 (ids.map ei)),C.ro false (di u),C.ro false (D.bool true)])),(8,AV.v false (di u),none),(10,AV.pl 10 0 [],some (Rt.vir [C.own (D.sl 2 ((rows0 s.1).map XRow.e))])),(11,AV.v false (di ((s.1.length : Nat) : Int)),none)]) (fun s => ids = s.1 ++ s.2) (fun s => s.2.length) ([],ids) (by simp [rows0]) rfl ?_
  rintro ⟨pre,rest⟩ y1
  simp only at y1
  have y3 : ids.length = pre.length + rest.length:=by rw [y1,List.length_append]
  rcases rest with _ | ⟨d,rest⟩
  ·simp only [List.length_nil] at y3
   simp only [List.append_nil] at y1
   subst y1
   have c1 : ¬ (ids.length : Int) < (ids.length : Int):=by omega
   unfold pl462_2
   refine Ud c1 ?_
   have hr0l : (rows0 ids).length = ids.length:=by simp [rows0]
   by_cases h0 : ids.length = 0
   ·have hne : ids = []:=List.length_eq_zero_iff.1 h0
    subst hne
    have hgc : gCols b cols u [] = some ([],u):=rfl
    refine wp_loopI (σ:=List Int × List Int × Int × List XRow) (fun s => [(0,AV.v k0 (D.sl 1 (cols.map ei)),none),(1,AV.v k1 (D.sl 1 (b.map eb)),none),(6,AV.pl 6 0 [],some (Rt.vir [C.own (D.sl 2 [])])),(7,AV.pl 7 0 [],some (Rt.vir [C.own (D.sl 1 []),C.ro false (di u),C.ro false (D.bool true)])),(8,AV.v false (di s.2.2.1),none),(10,AV.pl 10 0 [],some (Rt.vir [C.own (D.sl 2 (s.2.2.2.map XRow.e))])),(12,AV.v false (di ((s.1.length : Nat) : Int)),none)]) (fun s => s = ([],cols,u,[])) (fun _ => 0) ([],cols,u,[]) (by simp [rows0]) rfl ?_
    rintro s rfl
    obtain ⟨ty,hgt⟩ : ∃ ty,cols[0]? = some ty:=⟨_,List.getElem?_eq_getElem (by omega)⟩
    obtain ⟨hlt,hge⟩:=List.getElem?_eq_some_iff.1 hgt
    have c1 : (0 : Int) < (cols.length : Int):=by omega
    have hnro:=fun k0 k1 : Bool => t493 k0 k1 cols [] h (by simp) (fun r hr => by simp at hr)
    simp only [List.map_nil] at hnro
    unfold pl462_1
    skip
    cases hro : rowsOkF cols [] with
    | false =>
     have hd : ggF cols b = none:=by rw [ggF_yes hg hco hgc,if_neg (by rw [hro]; simp)]
     refine Ud (J8 c1 hgt hlt hge hnro h hro hd) ?_ ?_
     all_goals repeat intro hc
     all_goals simp [pf462,hd]
    | true =>
     by_cases e3 : u = (b.length : Int)
     ·have hd : ggF cols b = some []:=by rw [ggF_yes hg hco hgc,if_pos ⟨e3,hro⟩]
      refine Ud (J8 c1 hgt hlt hge hnro h hro (J2 e3 hd)) ?_
      simp [pf462,hd]
     ·have hd : ggF cols b = none:=by rw [ggF_yes hg hco hgc,if_neg (fun e => e3 e.1)]
      refine Ud (J8 c1 hgt hlt hge hnro h hro (J2 e3 hd)) ?_
      simp [pf462,hd]
   ·have hne : ¬ ids = []:=fun e => h0 (by rw [e]; rfl)
    have hgce : gCols b cols u ids = getCols b (ids.length : Int) cols u (rows0 ids):=by unfold gCols; rw [if_neg h0]
    have hip : (0 : Int) < (ids.length : Int):=by omega
    refine wp_loopI (σ:=List Int × List Int × Int × List XRow) (fun s => [(0,AV.v k0 (D.sl 1 (cols.map ei)),none),(1,AV.v k1 (D.sl 1 (b.map eb)),none),(6,AV.pl 6 0 [],some (Rt.vir [C.own (D.sl 2 [])])),(7,AV.pl 7 0 [],some (Rt.vir [C.own (D.sl 1 (ids.map ei)),C.ro false (di u),C.ro false (D.bool true)])),(8,AV.v false (di s.2.2.1),none),(10,AV.pl 10 0 [],some (Rt.vir [C.own (D.sl 2 (s.2.2.2.map XRow.e))])),(12,AV.v false (di ((s.1.length : Nat) : Int)),none)]) (fun s => cols = s.1 ++ s.2.1 ∧ gCols b cols u ids = getCols b (ids.length : Int) s.2.1 s.2.2.1 s.2.2.2 ∧ s.2.2.2.length = ids.length ∧ allL s.1.length s.2.2.2 ∧ XRow.sms s.2.2.2 ∧ 0 ≤ s.2.2.1 ∧ s.2.2.1 ≤ (b.length : Int)) (fun s => s.2.1.length) ([],cols,u,rows0 ids) (by simp) ⟨rfl,hgce,hr0l,rows0_all ids,rows0_sms ids,i3,i4⟩ ?_
    rintro ⟨pre,rest,v,rows⟩ ⟨z1,z2,z4,z5,z6,z7,z8⟩
    simp only at z1 z2 z4 z5 z6 z7 z8
    have z3 : cols.length = pre.length + rest.length:=by rw [z1,List.length_append]
    rcases rest with _ | ⟨ty,rest⟩
    ·simp only [List.length_nil] at z3
     have hgc : gCols b cols u ids = some (rows,v):=z2
     have hrl2 : rows.length ≤ 1048576:=by omega
     have hrs:=z6
     have c1 : ¬ (pre.length : Int) < (cols.length : Int):=by omega
     unfold pl462_1
     skip
     cases hro : rowsOkF cols rows with
     | false =>
      have hd : ggF cols b = none:=by rw [ggF_yes hg hco hgc,if_neg (by rw [hro]; simp)]
      refine Ud (J6 c1 h hro hrl2 hrs hd) ?_ ?_
      all_goals repeat intro hc
      all_goals simp [pf462,hd]
     | true =>
      by_cases e3 : v = (b.length : Int)
      ·have hd : ggF cols b = some rows:=by rw [ggF_yes hg hco hgc,if_pos ⟨e3,hro⟩]
       refine Ud (J7 c1 h hro hrl2 hrs e3 hd) ?_
       simp [pf462,hd]
      ·have hd : ggF cols b = none:=by rw [ggF_yes hg hco hgc,if_neg (fun e => e3 e.1)]
       refine Ud (J7 c1 h hro hrl2 hrs e3 hd) ?_
       simp [pf462,hd]
    ·simp only [List.length_cons] at z3
     have hgt : cols[pre.length]? = some ty:=by rw [z1]; simp
     have hty:=cty ty (List.mem_of_getElem? hgt)
     obtain ⟨hlt,hge⟩:=List.getElem?_eq_some_iff.1 hgt
     have c1 : (pre.length : Int) < (cols.length : Int):=by omega
     have hw:=Wi ((pre.length : Int) + 1)
     unfold pl462_1
     cases hgn : gN b v with
     | none =>
      have hd : ggF cols b = none:=ggF_ng hg (by rw [z2,getCols_no1 hgn])
      refine Ud (J8 hgt hge hlt c1 hw hne hip (J4 h2 hb hgn hd)) ?_ ?_
      all_goals repeat intro hc
      all_goals first | exact absurd ‹ids = []› hne | (simp [pf462,hd]; done)
     | some q =>
      obtain ⟨n,t⟩:=q
      obtain ⟨g1,g2,g3,g4,g5⟩:=gN_can hb hgn
      have w1:=Wi ((b.length : Int) - t)
      by_cases hwi : 0 ≤ n ∧ n ≤ (b.length : Int) - t
      ·obtain ⟨nn,rfl⟩:=Int.eq_ofNat_of_zero_le hwi.1
       obtain ⟨tt,rfl⟩:=Int.eq_ofNat_of_zero_le (show (0 : Int) ≤ t by omega)
       have w2:=Wi ((tt : Int) + (nn : Int))
       have w3 : ((tt : Int) + (nn : Int)).toNat = tt + nn:=by omega
       have p1:=hwi.1
       have p2:=hwi.2
       have p3 : tt + nn ≤ b.length:=by omega
       have p4 : (tt : Int) + (nn : Int) ≤ (b.length : Int):=by omega
       have p5 : (tt : Int) ≤ (tt : Int) + (nn : Int):=by omega
       have hsb : bytesOk (segB b tt nn):=bytesOk_drop _ (bytesOk_take _ hb)
       have hsl : (segB b tt nn).length ≤ 1048576:=by simp only [segB,List.length_drop,List.length_take]; omega
       have hsg : List.drop tt (List.take (tt + nn) (List.map eb b)) = List.map eb (segB b tt nn):=by
        simp only [segB,List.map_drop,List.map_take]; rw [w3,show ((tt : Int)).toNat = tt by omega]
       have p6 : (0 : Int) ≤ (tt : Int) + (nn : Int):=by omega
       have kk : 1 ≤ ids.length ∧ ids.length ≤ 64:=by omega
       have kk2 : (1 : Int) ≤ (ids.length : Int) ∧ (ids.length : Int) ≤ 64:=by omega
       have hdc:=fun kb : Bool => t492 kb (segB b tt nn) ty (ids.length : Int) hsl hsb hty kk2
       cases hdv : decC (segB b tt nn) ty (ids.length : Int) with
       | none =>
        have hd : ggF cols b = none:=ggF_ng hg (by rw [z2,getCols_no3 hgn hwi hdv])
        rw [hdv] at hdc
        refine Ud (J8 hgt hge hlt c1 hw hne hip (J8 h2 hb hgn w1 w2 w3 p1 (J8 p2 p3 p4 p5 p6 hsg hdc hd))) ?_ ?_
        all_goals repeat intro hc
        all_goals first | exact absurd ‹ids = []› hne | (simp [pf462,hd]; done)
       | some vs =>
        rw [hdv] at hdc
        have hvl:=(decC_some hsb hdv).1
        have hvs:=decC_sms hsb hty hdv
        rw [getCols_yes hgn hwi hdv] at z2
        have hrv : rows.length = vs.length:=by omega
        have hal:=addCol_len hrv
        refine Ud (J8 hgt hge hlt c1 hw hne hip (J8 h2 hb hgn w1 w2 w3 p1 (J7 p2 p3 p4 p5 p6 hsg hdc))) ?_ ?_
        all_goals repeat intro hc
        all_goals first | exact absurd ‹ids = []› hne | skip
        refine wp_loopI (σ:=List XRow × List XRow × List XVal × List XVal) (fun s => [(0,AV.v k0 (D.sl 1 (cols.map ei)),none),(1,AV.v k1 (D.sl 1 (b.map eb)),none),(6,AV.pl 6 0 [],some (Rt.vir [C.own (D.sl 2 [])])),(7,AV.pl 7 0 [],some (Rt.vir [C.own (D.sl 1 (ids.map ei)),C.ro false (di u),C.ro false (D.bool true)])),(10,AV.pl 10 0 [],some (Rt.vir [C.own (D.sl 2 (s.1.map XRow.e ++ s.2.1.map XRow.e))])),(12,AV.v false (di (pre.length : Nat)),none),(13,AV.v false (di (nn : Nat)),none),(14,AV.v false (di (tt : Nat)),none),(16,AV.pl 16 0 [],some (Rt.vir [C.own (D.sl 3 (vs.map XVal.e)),C.ro false (D.bool true)])),(18,AV.v false (di ((s.1.length : Nat) : Int)),none)]) (fun s => addCol rows vs = s.1 ++ addCol s.2.1 s.2.2.2 ∧ s.2.1.length = s.2.2.2.length ∧ vs = s.2.2.1 ++ s.2.2.2 ∧ s.2.2.1.length = s.1.length ∧ allL pre.length s.2.1) (fun s => s.2.1.length) ([],rows,[],vs) (by simp) ⟨rfl,hrv,rfl,rfl,z5⟩ ?_
        rintro ⟨A,R,P,W⟩ ⟨x1,x2,x3,x4,x5⟩
        simp only at x1 x2 x3 x4 x5
        have x6 : vs.length = P.length + W.length:=by rw [x3,List.length_append]
        rcases R with _ | ⟨⟨y_Id,y_L⟩,R⟩
        ·have hWn : W = []:=List.length_eq_zero_iff.1 (by simpa using x2.symm)
         subst hWn
         simp only [List.length_nil] at x6
         simp only [addCol_nil,List.append_nil] at x1
         have c1 : ¬ (A.length : Int) < (rows.length : Int):=by omega
         have c2 : ¬ (A.length : Int) < (ids.length : Int):=by omega
         unfold pl462_0
         refine Ud (J5 c1 c2 w2 hw x1) ?_
         exact ⟨(pre ++ [ty],rest,(tt : Int) + (nn : Int),A),(by simp; try omega),⟨by rw [z1]; simp,by rw [z2,x1],by simp only; rw [← x1]; omega,by simp only; rw [← x1]; simpa using addCol_all z5,by simp only; rw [← x1]; exact addCol_sms (by omega) z5 z6 hvs,by simp only; omega,by simp only; omega⟩,by simp⟩
        ·rcases W with _ | ⟨⟨dT,dN,dS⟩,W⟩
         ·simp at x2
         ·simp only [List.length_cons] at x6 x2
          have c1 : (A.length : Int) < (rows.length : Int):=by omega
          have c2 : (A.length : Int) < (ids.length : Int):=by omega
          have hw3:=Wi ((A.length : Int) + 1)
          have hgv : vs[A.length]? = some ⟨dT,dN,dS⟩:=by rw [x3,← x4]; simp
          obtain ⟨hvlt,hvge⟩:=List.getElem?_eq_some_iff.1 hgv
          have hyl:=x5 ⟨y_Id,y_L⟩ (by simp)
          simp only at hyl
          have hq : (y_L.length + 1) * 32 ≤ 70368744177664:=by omega
          have q1 : (A.length : Int) < (A.length : Int) + ((R.length : Int) + 1):=by omega
          have q2 : A.length < A.length + (R.length + 1):=by omega
          unfold pl462_0
          refine Ud (J8 c1 c2 hw3 q1 q2 hgv hvlt (J2 hvge hq)) ?_
          exact ⟨(A ++ [⟨y_Id,y_L ++ [⟨dT,dN,dS⟩]⟩],R,P ++ [⟨dT,dN,dS⟩],W),(by simp; try omega),⟨by rw [x1]; simp [addCol],by simp only; omega,by rw [x3]; simp,by simp [x4],fun r hr => x5 r (by simp [hr])⟩,by simp⟩
      ·have hd : ggF cols b = none:=ggF_ng hg (by rw [z2,getCols_no2 hgn hwi])
       have hwi2 : (decide (0 ≤ n) && decide (n ≤ (b.length : Int) - t)) = false:=by simp; omega
       by_cases hn0 : 0 ≤ n
       ·have p1 : ¬ n ≤ (b.length : Int) - t:=fun e => hwi ⟨hn0,e⟩
        refine Ud (J8 hgt hge hlt c1 hw hne hip (J7 h2 hb hgn w1 hn0 p1 hd)) ?_ ?_
        all_goals repeat intro hc
        all_goals first | exact absurd ‹ids = []› hne | (simp [pf462,hd]; done)
       ·refine Ud (J8 hgt hge hlt c1 hw hne hip (J6 h2 hb hgn w1 hn0 hd)) ?_ ?_
        all_goals repeat intro hc
        all_goals first | exact absurd ‹ids = []› hne | (simp [pf462,hd]; done)
  ·simp only [List.length_cons] at y3
   have hgi : ids[pre.length]? = some d:=by rw [y1]; simp
   obtain ⟨hlt,hge⟩:=List.getElem?_eq_some_iff.1 hgi
   have c1 : (pre.length : Int) < (ids.length : Int):=by omega
   have hw:=Wi ((pre.length : Int) + 1)
   have hq : (pre.length + 1) * 32 ≤ 70368744177664:=by omega
   have hrp : (rows0 pre).length = pre.length:=by simp [rows0]
   have hq2 : ((rows0 pre).length + 1) * 32 ≤ 70368744177664:=by omega
   unfold pl462_2
   refine Ud (J8 hgi hge hlt c1 hw hrp hq hq2) ?_
   exact ⟨(pre ++ [d],rest),(by simp [rows0]; try omega),by rw [y1]; simp,by simp⟩
 ·have hd : ggF cols b = none:=ggF_nc hco
  refine Ud (J6 h h2 hb hg hco hd) ?_
  simp [pf462,hd]

/-- The rows of a reference's group. -/
def grpF (cols : List Int) (B : List XBuf) (r : XRef) : List XRow:=if r.Kind = 2 ∧ thereF B r.Buf r.Gen r.Kind r.Many = true then (match B[r.Buf.toNat]? with
 | some b => (ggF cols b.G).getD []
 | none => []) else []
def placesOfF (cols : List Int) (B : List XBuf) (r : XRef) : Int:=if isChunkB B r = true then (match B[r.Buf.toNat]? with
 | some b => (b.C.L.length : Int)
 | none => 0) else ((grpF cols B r).length : Int)
theorem thereF_get {B : List XBuf} {buf gen kind many : Int} (h : thereF B buf gen kind many = true) : ∃ b,B[buf.toNat]? = some b ∧ 0 ≤ buf ∧ buf < (B.length : Int) ∧ b ∈ B:=by
 by_cases hb : 0 ≤ buf ∧ buf < (B.length : Int)
 ·have : B[buf.toNat]? = some B[buf.toNat]:=List.getElem?_eq_getElem (by omega)
  exact ⟨_,this,hb.1,hb.2,List.mem_of_getElem? this⟩
 ·rw [thereF_out hb] at h; cases h

@[simp] theorem t449 (k0 : Bool) (x_C_Cols : List Int) (x_C_Slots : Int) (x_C_Bufs : Int) (x_Time : Int) (x_T : Int) (x_E : Int) (x_Dd_Ver : Int) (x_Dd_L : List XRef) (x_B : List XBuf) (x_M : List Int) (x_X : List XDead) (x_P : List Int) (x_Tasks : List XTask) (x_Deeds : List XDeed) (r_Buf : Int) (r_Gen : Int) (r_Kind : Int) (r_First : Int) (r_Many : Int) (h : x_B.length ≤ 1048576) (hcl : x_C_Cols.length ≤ 1048576) (hG : ∀ b ∈ x_B,b.G.length ≤ 1048576 ∧ bytesOk b.G) : Gw TT 449 [.st [.ro k0 (.sl 1 (x_C_Cols.map ei)),.ro false (di x_C_Slots),.ro false (di x_C_Bufs),.ro false (di x_Time),.ro false (di x_T),.ro false (di x_E),.ro false (di x_Dd_Ver),.ro k0 (.sl 5 (x_Dd_L.map XRef.e)),.ro k0 (.sl 5 (x_B.map XBuf.e)),.ro k0 (.sl 1 (x_M.map ei)),.ro k0 (.sl 3 (x_X.map XDead.e)),.ro k0 (.sl 1 (x_P.map ei)),.ro k0 (.sl 25 (x_Tasks.map XTask.e)),.ro k0 (.sl 25 (x_Deeds.map XDeed.e))],.st [.ro false (di r_Buf),.ro false (di r_Gen),.ro false (di r_Kind),.ro false (di r_First),.ro false (di r_Many)]] = some (.one (.own (.sl 2 ((grpF x_C_Cols x_B ⟨r_Buf,r_Gen,r_Kind,r_First,r_Many⟩).map XRow.e))),[]):=by
 refine Ga pf449 pb449 ?_
 unfold pb449
 by_cases hk : r_Kind = 2
 ·subst hk
  cases ht : thereF x_B r_Buf r_Gen 2 r_Many with
  | false =>
   have hg : grpF x_C_Cols x_B ⟨r_Buf,r_Gen,2,r_First,r_Many⟩ = []:=by unfold grpF; rw [if_neg (by rw [ht]; simp)]
   refine Ua (J2 h ht) ?_
   simp [pf449,hg]
  | true =>
   obtain ⟨⟨bg,bk,⟨bn,bL⟩,bG⟩,hb,hb0,hb1,hbm⟩:=thereF_get ht
   obtain ⟨hG1,hG2⟩:=hG _ hbm
   simp only at hG1 hG2
   obtain ⟨hlt,he⟩:=List.getElem?_eq_some_iff.1 hb
   have hget:=fun k0 k1 : Bool => t463 k0 k1 x_C_Cols bG hcl hG1 hG2
   cases hgg : ggF x_C_Cols bG with
   | none =>
    have hg : grpF x_C_Cols x_B ⟨r_Buf,r_Gen,2,r_First,r_Many⟩ = []:=by unfold grpF; rw [if_pos ⟨rfl,ht⟩]; simp only; rw [hb]; simp [hgg]
    rw [hgg] at hget
    refine Ua (J8 h ht hb0 hb1 he hb hlt hget) ?_
    simp [pf449,hg]
   | some l =>
    have hg : grpF x_C_Cols x_B ⟨r_Buf,r_Gen,2,r_First,r_Many⟩ = l:=by unfold grpF; rw [if_pos ⟨rfl,ht⟩]; simp only; rw [hb]; simp [hgg]
    rw [hgg] at hget
    refine Ua (J8 h ht hb0 hb1 he hb hlt hget) ?_
    simp [pf449,hg]
 ·have hg : grpF x_C_Cols x_B ⟨r_Buf,r_Gen,r_Kind,r_First,r_Many⟩ = []:=by unfold grpF; rw [if_neg (fun e => hk e.1)]
  refine Ua (J2 h hk) ?_
  simp [pf449,hg]

theorem t446 (k0 : Bool) (x_C_Cols : List Int) (x_C_Slots : Int) (x_C_Bufs : Int) (x_Time : Int) (x_T : Int) (x_E : Int) (x_Dd_Ver : Int) (x_Dd_L : List XRef) (x_B : List XBuf) (x_M : List Int) (x_X : List XDead) (x_P : List Int) (x_Tasks : List XTask) (x_Deeds : List XDeed) (r_Buf : Int) (r_Gen : Int) (r_Kind : Int) (r_First : Int) (r_Many : Int) (bg bk bn : Int) (bL : List XSlot) (bG : List Int) (hb : x_B[r_Buf.toNat]? = some ⟨bg,bk,⟨bn,bL⟩,bG⟩) (hb0 : 0 ≤ r_Buf) (hb1 : r_Buf < (x_B.length : Int)) (hcl : x_C_Cols.length ≤ 1048576) (hG1 : bG.length ≤ 1048576) (hG2 : bytesOk bG) :
  Gw TT 446 [.st [.ro k0 (.sl 1 (x_C_Cols.map ei)),.ro false (di x_C_Slots),.ro false (di x_C_Bufs),.ro false (di x_Time),.ro false (di x_T),.ro false (di x_E),.ro false (di x_Dd_Ver),.ro k0 (.sl 5 (x_Dd_L.map XRef.e)),.ro k0 (.sl 5 (x_B.map XBuf.e)),.ro k0 (.sl 1 (x_M.map ei)),.ro k0 (.sl 3 (x_X.map XDead.e)),.ro k0 (.sl 1 (x_P.map ei)),.ro k0 (.sl 25 (x_Tasks.map XTask.e)),.ro k0 (.sl 25 (x_Deeds.map XDeed.e))],.st [.ro false (di r_Buf),.ro false (di r_Gen),.ro false (di r_Kind),.ro false (di r_First),.ro false (di r_Many)]] = some (.one (.own (.sl 2 (((ggF x_C_Cols bG).getD []).map XRow.e))),[]):=by
 refine Ga pf446 pb446 ?_
 unfold pb446
 obtain ⟨hlt,he⟩:=List.getElem?_eq_some_iff.1 hb
 have hget:=fun k0 k1 : Bool => t462 k0 k1 x_C_Cols bG hcl hG1 hG2
 cases hgg : ggF x_C_Cols bG with
 | none =>
  rw [hgg] at hget
  refine Ua (J6 hb0 hb1 he hb hlt hget) ?_
  simp [pf446]
 | some l =>
  rw [hgg] at hget
  refine Ua (J6 hb0 hb1 he hb hlt hget) ?_
  simp [pf446]

def rowAtF (cols : List Int) (B : List XBuf) (r : XRef) (j : Int) : Option XRow:=if isChunkB B r = true then (match B[r.Buf.toNat]? with
 | some b => if 0 ≤ j then (match b.C.L[j.toNat]? with
  | some s => some ⟨IntKind.wrap .i64 (r.First + j),s.L⟩
  | none => none) else none
 | none => none) else if 0 ≤ j then (grpF cols B r)[j.toNat]? else none
def raV (r : Option XRow) : V:=match r with
 | some x => .tup [.st [.ro false (di x.Id),.own (.sl 3 (x.L.map XVal.e))],vb true]
 | none => .tup [.st [.ro false (di 0),.own (.sl 3 [])],vb false]
@[simp] theorem raV_some (a : Int) (l : List XVal) : raV (some ⟨a,l⟩) = .tup [.st [.ro false (di a),.own (.sl 3 (l.map XVal.e))],vb true]:=rfl
@[simp] theorem raV_none : raV none = .tup [.st [.ro false (di 0),.own (.sl 3 [])],vb false]:=rfl
theorem raF_slot {cols : List Int} {B : List XBuf} {r : XRef} {m : Nat} {b : XBuf} {s : XSlot} (hc : isChunkB B r = true) (hb : B[r.Buf.toNat]? = some b) (hm : b.C.L[m]? = some s) : rowAtF cols B r (m : Int) = some ⟨IntKind.wrap .i64 (r.First + (m : Int)),s.L⟩:=by
 unfold rowAtF; rw [if_pos hc,hb]; simp only; rw [if_pos (by omega),show ((m : Int)).toNat = m by omega,hm]
theorem raF_noslot {cols : List Int} {B : List XBuf} {r : XRef} {j : Int} {b : XBuf} (hc : isChunkB B r = true) (hb : B[r.Buf.toNat]? = some b) (hm : ¬ (0 ≤ j ∧ j < (b.C.L.length : Int))) : rowAtF cols B r j = none:=by
 unfold rowAtF; rw [if_pos hc,hb]; simp only
 split
 ·rw [List.getElem?_eq_none (by omega)]
 ·rfl
theorem raF_row {cols : List Int} {B : List XBuf} {r : XRef} {m : Nat} {x : XRow} (hc : ¬ isChunkB B r = true) (hm : (grpF cols B r)[m]? = some x) : rowAtF cols B r (m : Int) = some x:=by
 unfold rowAtF; rw [if_neg hc,if_pos (by omega),show ((m : Int)).toNat = m by omega,hm]
theorem raF_norow {cols : List Int} {B : List XBuf} {r : XRef} {j : Int} (hc : ¬ isChunkB B r = true) (hm : ¬ (0 ≤ j ∧ j < ((grpF cols B r).length : Int))) : rowAtF cols B r j = none:=by
 unfold rowAtF; rw [if_neg hc]
 split
 ·rw [List.getElem?_eq_none (by omega)]
 ·rfl

theorem ggF_len (cols b : List Int) : ((ggF cols b).getD []).length ≤ 1048576:=by
 cases hg : ggF cols b with
 | none => simp
 | some l =>
  unfold ggF at hg
  split at hg
  ·split at hg
   ·split at hg
    ·split at hg
     ·rename_i hh
      simp only [Option.some.injEq] at hg
      subst hg
      have:=(rowsOkF_props hh.2).2.1
      simp; omega
     ·cases hg
    ·cases hg
   ·cases hg
  ·cases hg
theorem rowsL_sms {cols : List Int} (hc : cols.length ≤ 3) : ∀ {l : List XRow} {p : Option Int},rowsL cols p l = true → ∀ r ∈ l,r.L.length ≤ 3
 | [],_,_,r,hr => by simp at hr
 | x :: l,p,h,r,hr => by
  simp only [rowsL] at h
  split at h
  ·rename_i hx
   rcases List.mem_cons.1 hr with rfl | hr
   ·have:=hx.1
    simp only [rowOkF,fitsF,Bool.and_eq_true,decide_eq_true_eq] at this
    omega
   ·exact rowsL_sms hc h r hr
  ·cases h
theorem ggF_rows (cols b : List Int) : ∀ r ∈ (ggF cols b).getD [],r.L.length ≤ 3:=by
 cases hg : ggF cols b with
 | none => intro r hr; simp at hr
 | some l =>
  unfold ggF at hg
  split at hg
  ·split at hg
   ·rename_i hco
    split at hg
    ·split at hg
     ·rename_i hh
      simp only [Option.some.injEq] at hg
      subst hg
      have h3:=hh.2
      simp only [rowsOkF,Bool.and_eq_true] at h3
      exact fun r hr => rowsL_sms (colsOk_len hco).2 h3.2.2 r (by simpa using hr)
     ·cases hg
    ·cases hg
   ·cases hg
  ·cases hg

def raI (r : Option XRow) : Int:=match r with
 | some x => x.Id
 | none => 0
def raL (r : Option XRow) : List XVal:=match r with
 | some x => x.L
 | none => []
theorem raV_eq (r : Option XRow) : raV r = .tup [.st [.ro false (di (raI r)),.own (.sl 3 ((raL r).map XVal.e))],vb r.isSome]:=by cases r <;> rfl
theorem fitsL_sms : ∀ {cols : List Int} {l : List XVal},fitsL cols l = true → XVal.sms l
 | _,[],_ => fun v hv => by simp at hv
 | [],_ :: _,h => by simp [fitsL] at h
 | c :: cs,x :: l,h => fun v hv => by
  simp only [fitsL] at h
  split at h
  ·rename_i hx
   rcases List.mem_cons.1 hv with rfl | hv
   ·have:=valOkF_len hx.1
    simp only [XVal.sm]; omega
   ·exact fitsL_sms h v hv
  ·cases h
theorem rowsL_vals {cols : List Int} : ∀ {l : List XRow} {p : Option Int},rowsL cols p l = true → ∀ r ∈ l,XVal.sms r.L
 | [],_,_,r,hr => by simp at hr
 | x :: l,p,h,r,hr => by
  simp only [rowsL] at h
  split at h
  ·rename_i hx
   rcases List.mem_cons.1 hr with rfl | hr
   ·have:=hx.1
    simp only [rowOkF,fitsF,Bool.and_eq_true] at this
    exact fitsL_sms this.2.2
   ·exact rowsL_vals h r hr
  ·cases h
theorem ggF_vals (cols b : List Int) : ∀ r ∈ (ggF cols b).getD [],XVal.sms r.L:=by
 cases hg : ggF cols b with
 | none => intro r hr; simp at hr
 | some l =>
  unfold ggF at hg
  split at hg
  ·split at hg
   ·split at hg
    ·split at hg
     ·rename_i hh
      simp only [Option.some.injEq] at hg
      subst hg
      have h3:=hh.2
      simp only [rowsOkF,Bool.and_eq_true] at h3
      exact fun r hr => rowsL_vals h3.2.2 r (by simpa using hr)
     ·cases hg
    ·cases hg
   ·cases hg
  ·cases hg
theorem grpF_small {cols : List Int} {B : List XBuf} {r : XRef} : ∀ x ∈ grpF cols B r,x.L.length ≤ 1048576 ∧ XVal.sms x.L:=by
 unfold grpF
 split
 ·split
  ·rename_i b _
   exact fun x hx => ⟨Nat.le_trans (ggF_rows cols b.G x hx) (by omega),ggF_vals cols b.G x hx⟩
  ·intro x hx; simp at hx
 ·intro x hx; simp at hx
theorem raL_small {cols : List Int} {B : List XBuf} {r : XRef} {j : Int} (hs : XBuf.sms B) : (raL (rowAtF cols B r j)).length ≤ 1048576 ∧ XVal.sms (raL (rowAtF cols B r j)):=by
 have h0 : (raL none).length ≤ 1048576 ∧ XVal.sms (raL none):=⟨by simp [raL],fun v hv => by simp [raL] at hv⟩
 unfold rowAtF
 split
 ·split
  ·rename_i b hb
   split
   ·split
    ·rename_i s hm
     exact (hs b (List.mem_of_getElem? hb)).1.2 s (List.mem_of_getElem? hm)
    ·exact h0
   ·exact h0
  ·exact h0
 ·split
  ·cases hg : (grpF cols B r)[j.toNat]? with
   | none => exact h0
   | some x => exact grpF_small x (List.mem_of_getElem? hg)
  ·exact h0

structure XZone where
 Lo : XVal
 Hi : XVal
@[simp] def XZone.e (z : XZone) : List D:=[di z.Lo.Ty,di z.Lo.N,.str z.Lo.S,di z.Hi.Ty,di z.Hi.N,.str z.Hi.S]
def inZF (z : XZone) (v : XVal) : Bool:=!ltV v z.Lo && !ltV z.Hi v
def mh1F (op : Int) (z : XZone) (v : XVal) : Bool:=if op = 1 then ltV z.Lo v else if op = 2 then !ltV v z.Lo else if op = 3 then inZF z v else if op = 4 then !valEq z.Lo v || !valEq z.Hi v else if op = 5 then !ltV z.Hi v else if op = 6 then ltV v z.Hi else false
def oppF (op : Int) : Int:=if op = 1 then 5 else if op = 2 then 6 else if op = 3 then 4 else if op = 4 then 3 else if op = 5 then 1 else if op = 6 then 2 else 0
def zoneS (z : XZone) (v : XVal) : XZone:=⟨if ltV v z.Lo = true then v else z.Lo,if ltV z.Hi v = true then v else z.Hi⟩
def zoneL (z : XZone) (l : List XVal) : XZone:=l.foldl zoneS z
def zoneF : List XVal → XZone
 | [] => ⟨⟨0,0,⟨#[]⟩⟩,⟨0,0,⟨#[]⟩⟩⟩
 | v :: l => zoneL ⟨v,v⟩ l
theorem zoneS_self (v : XVal) : zoneS ⟨v,v⟩ v = ⟨v,v⟩:=by simp [zoneS]
def zonesF (l : List XRow) : List XZone:=match l with
 | [] => []
 | r :: _ => (List.range r.L.length).map fun k => zoneF (colN k l)

@[simp] theorem t509 (a_Ty a_N : Int) (a_S : ByteArray) (b_Ty b_N : Int) (b_S : ByteArray) (v_Ty v_N : Int) (v_S : ByteArray) : Gw TT 509 [.st [.ro false (di a_Ty),.ro false (di a_N),.ro false (.str a_S),.ro false (di b_Ty),.ro false (di b_N),.ro false (.str b_S)],.st [.ro false (di v_Ty),.ro false (di v_N),.ro false (.str v_S)]] = some (vb (inZF ⟨⟨a_Ty,a_N,a_S⟩,⟨b_Ty,b_N,b_S⟩⟩ ⟨v_Ty,v_N,v_S⟩),[]):=by
 refine Ga pf509 pb509 ?_
 unfold pb509
 cases q1 : ltVF v_Ty v_N v_S a_Ty a_N a_S with
 | true =>
  refine Ud q1 ?_
  simp [pf509,inZF,ltV,q1]
 | false =>
  refine Ud q1 ?_
  simp [pf509,inZF,ltV,q1]

@[simp] theorem t506 (a_Ty a_N : Int) (a_S : ByteArray) (b_Ty b_N : Int) (b_S : ByteArray) (v_Ty v_N : Int) (v_S : ByteArray) : Gw TT 506 [.st [.ro false (di a_Ty),.ro false (di a_N),.ro false (.str a_S),.ro false (di b_Ty),.ro false (di b_N),.ro false (.str b_S)],.st [.ro false (di v_Ty),.ro false (di v_N),.ro false (.str v_S)]] = some (vb (inZF ⟨⟨a_Ty,a_N,a_S⟩,⟨b_Ty,b_N,b_S⟩⟩ ⟨v_Ty,v_N,v_S⟩),[]):=by
 refine Ga pf506 pb506 ?_
 unfold pb506
 cases q1 : ltVF v_Ty v_N v_S a_Ty a_N a_S with
 | true =>
  refine Ud q1 ?_
  simp [pf506,inZF,ltV,q1]
 | false =>
  refine Ud q1 ?_
  simp [pf506,inZF,ltV,q1]

@[simp] theorem t478 (op : Int) (a_Ty a_N : Int) (a_S : ByteArray) (b_Ty b_N : Int) (b_S : ByteArray) (v_Ty v_N : Int) (v_S : ByteArray) : Gw TT 478 [vi op,.st [.ro false (di a_Ty),.ro false (di a_N),.ro false (.str a_S),.ro false (di b_Ty),.ro false (di b_N),.ro false (.str b_S)],.st [.ro false (di v_Ty),.ro false (di v_N),.ro false (.str v_S)]] = some (vb (mh1F op ⟨⟨a_Ty,a_N,a_S⟩,⟨b_Ty,b_N,b_S⟩⟩ ⟨v_Ty,v_N,v_S⟩),[]):=by
 refine Ga pf478 pb478 ?_
 unfold pb478
 by_cases q1 : op = 1
 ·subst q1
  refine Ud Oo ?_
  repeat intro hc
  simp [pf478,mh1F,ltV,valEq]
 by_cases q2 : op = 2
 ·subst q2
  refine Ud Oo ?_
  repeat intro hc
  simp [pf478,mh1F,ltV,valEq]
 by_cases q3 : op = 3
 ·subst q3
  refine Ud Oo ?_
  repeat intro hc
  simp [pf478,mh1F,ltV,valEq]
 by_cases q4 : op = 4
 ·subst q4
  refine Ud Oo ?_ ?_
  all_goals repeat intro hc
  all_goals simp_all [pf478,mh1F,ltV,valEq]
 by_cases q5 : op = 5
 ·subst q5
  refine Ud Oo ?_
  repeat intro hc
  simp [pf478,mh1F,ltV,valEq]
 by_cases q6 : op = 6
 ·subst q6
  refine Ud Oo ?_
  repeat intro hc
  simp [pf478,mh1F,ltV,valEq]
 refine Ud (J6 q1 q2 q3 q4 q5 q6) ?_
 repeat intro hc
 simp [pf478,mh1F,q1,q2,q3,q4,q5,q6]

@[simp] theorem t474 (op : Int) (a_Ty a_N : Int) (a_S : ByteArray) (b_Ty b_N : Int) (b_S : ByteArray) (v_Ty v_N : Int) (v_S : ByteArray) : Gw TT 474 [vi op,.st [.ro false (di a_Ty),.ro false (di a_N),.ro false (.str a_S),.ro false (di b_Ty),.ro false (di b_N),.ro false (.str b_S)],.st [.ro false (di v_Ty),.ro false (di v_N),.ro false (.str v_S)]] = some (vb (mh1F op ⟨⟨a_Ty,a_N,a_S⟩,⟨b_Ty,b_N,b_S⟩⟩ ⟨v_Ty,v_N,v_S⟩),[]):=by
 refine Ga pf474 pb474 ?_
 unfold pb474
 by_cases q1 : op = 1
 ·subst q1
  refine Ud Oo ?_
  repeat intro hc
  simp [pf474,mh1F,ltV,valEq]
 by_cases q2 : op = 2
 ·subst q2
  refine Ud Oo ?_
  repeat intro hc
  simp [pf474,mh1F,ltV,valEq]
 by_cases q3 : op = 3
 ·subst q3
  refine Ud Oo ?_
  repeat intro hc
  simp [pf474,mh1F,ltV,valEq]
 by_cases q4 : op = 4
 ·subst q4
  refine Ud Oo ?_ ?_
  all_goals repeat intro hc
  all_goals simp_all [pf474,mh1F,ltV,valEq]
 by_cases q5 : op = 5
 ·subst q5
  refine Ud Oo ?_
  repeat intro hc
  simp [pf474,mh1F,ltV,valEq]
 by_cases q6 : op = 6
 ·subst q6
  refine Ud Oo ?_
  repeat intro hc
  simp [pf474,mh1F,ltV,valEq]
 refine Ud (J6 q1 q2 q3 q4 q5 q6) ?_
 repeat intro hc
 simp [pf474,mh1F,q1,q2,q3,q4,q5,q6]

@[simp] theorem t510 (op : Int) : Gw TT 510 [vi op] = some (vi (oppF op),[]):=by
 refine Ga pf510 pb510 ?_
 unfold pb510
 by_cases q1 : op = 1
 ·subst q1
  refine Ud Oo ?_
  repeat intro hc
  simp [pf510,oppF]
 by_cases q2 : op = 2
 ·subst q2
  refine Ud Oo ?_
  repeat intro hc
  simp [pf510,oppF]
 by_cases q3 : op = 3
 ·subst q3
  refine Ud Oo ?_
  repeat intro hc
  simp [pf510,oppF]
 by_cases q4 : op = 4
 ·subst q4
  refine Ud Oo ?_
  repeat intro hc
  simp [pf510,oppF]
 by_cases q5 : op = 5
 ·subst q5
  refine Ud Oo ?_
  repeat intro hc
  simp [pf510,oppF]
 by_cases q6 : op = 6
 ·subst q6
  refine Ud Oo ?_
  repeat intro hc
  simp [pf510,oppF]
 refine Ud (J6 q1 q2 q3 q4 q5 q6) ?_
 repeat intro hc
 simp [pf510,oppF,q1,q2,q3,q4,q5,q6]

@[simp] theorem t507 (op : Int) : Gw TT 507 [vi op] = some (vi (oppF op),[]):=by
 refine Ga pf507 pb507 ?_
 unfold pb507
 by_cases q1 : op = 1
 ·subst q1
  refine Ud Oo ?_
  repeat intro hc
  simp [pf507,oppF]
 by_cases q2 : op = 2
 ·subst q2
  refine Ud Oo ?_
  repeat intro hc
  simp [pf507,oppF]
 by_cases q3 : op = 3
 ·subst q3
  refine Ud Oo ?_
  repeat intro hc
  simp [pf507,oppF]
 by_cases q4 : op = 4
 ·subst q4
  refine Ud Oo ?_
  repeat intro hc
  simp [pf507,oppF]
 by_cases q5 : op = 5
 ·subst q5
  refine Ud Oo ?_
  repeat intro hc
  simp [pf507,oppF]
 by_cases q6 : op = 6
 ·subst q6
  refine Ud Oo ?_
  repeat intro hc
  simp [pf507,oppF]
 by_cases q0 : 1 ≤ op
 ·have q7 : ¬ op ≤ 6:=by omega
  refine Ud (J2 q0 q7) ?_
  repeat intro hc
  simp [pf507,oppF,q1,q2,q3,q4,q5,q6]
 ·refine Ud q0 ?_
  repeat intro hc
  simp [pf507,oppF,q1,q2,q3,q4,q5,q6]

@[simp] theorem t477 (k0 : Bool) (l : List XRow) (k : Nat) (h : l.length ≤ 1048576) (hs : XRow.sms l) (hk : k ≤ 1048576) : Gw TT 477 [.one (.ro k0 (.sl 2 (l.map XRow.e))),vi (k : Int)] = some (.one (.own (.sl 3 ((colN k l).map XVal.e))),[]):=by
 refine Ga pf477 pb477 ?_
 unfold pb477
 refine Ud Oo ?_
 refine wp_loopI (σ:=List XRow × List XRow × List XVal) (fun s => [(0,AV.v k0 (D.sl 2 (l.map XRow.e)),none),(1,AV.v false (di (k : Nat)),none),(5,AV.pl 5 0 [],some (Rt.vir [C.own (D.sl 3 ((s.2.2).map XVal.e))])),(6,AV.v false (di ((s.1.length : Nat) : Int)),none)]) (fun s => l = s.1 ++ s.2.1 ∧ colN k l = s.2.2 ++ colN k s.2.1 ∧ s.2.2.length ≤ s.1.length) (fun s => s.2.1.length) ([],l,[]) (by simp) ⟨rfl,by simp,by simp⟩ ?_
 rintro ⟨pre,rest,a⟩ ⟨y1,y2,y4⟩
 simp only at y1 y2 y4
 have y3 : l.length = pre.length + rest.length:=by rw [y1,List.length_append]
 rcases rest with _ | ⟨⟨y_Id,y_L⟩,rest⟩
 ·simp only [List.length_nil] at y3
  simp only [colN,List.filterMap_nil,List.append_nil] at y2
  have c1 : ¬ (pre.length : Int) < (l.length : Int):=by omega
  unfold pl477_0
  refine Ud c1 ?_
  repeat intro hc
  simp [pf477,colN,y2]
 ·simp only [List.length_cons] at y3
  have hg : l[pre.length]? = some ⟨y_Id,y_L⟩:=by rw [y1]; simp
  have hsd:=hs ⟨y_Id,y_L⟩ (List.mem_of_getElem? hg)
  simp only [XRow.sm] at hsd
  obtain ⟨hlt,hge⟩:=List.getElem?_eq_some_iff.1 hg
  have c1 : (pre.length : Int) < (l.length : Int):=by omega
  have hw:=Wi ((pre.length : Int) + 1)
  have hq : (a.length + 1) * 32 ≤ 70368744177664:=by omega
  have hw2:=Wi ((y_L.length : Int) - 1)
  unfold pl477_0
  by_cases q : k < y_L.length
  ·obtain ⟨⟨dT,dN,dS⟩,hv⟩ : ∃ v,y_L[k]? = some v:=⟨_,List.getElem?_eq_getElem q⟩
   have hve:=(List.getElem?_eq_some_iff.1 hv).2
   rw [colN_yes hv] at y2
   have p1 : (k : Int) < (y_L.length : Int):=by omega
   have p2 : ¬ (y_L.length : Int) ≤ (k : Int):=by omega
   have p3 : (k : Int) ≤ (y_L.length : Int) - 1:=by omega
   refine Ud (J8 c1 hw hq hw2 hg hlt hge (J6 q hv hve p1 p2 p3)) ?_
   repeat intro hc
   exact ⟨(pre ++ [⟨y_Id,y_L⟩],rest,a ++ [⟨dT,dN,dS⟩]),(by simp; try omega),⟨by rw [y1]; simp,y2,by simp; omega⟩,by simp⟩
  ·rw [colN_no q] at y2
   have p1 : ¬ (k : Int) < (y_L.length : Int):=by omega
   have p2 : (y_L.length : Int) ≤ (k : Int):=by omega
   have p3 : ¬ (k : Int) ≤ (y_L.length : Int) - 1:=by omega
   refine Ud (J8 c1 hw hw2 hg hlt hge q (J3 p1 p2 p3)) ?_
   repeat intro hc
   exact ⟨(pre ++ [⟨y_Id,y_L⟩],rest,a),(by simp; try omega),⟨by rw [y1]; simp,y2,by simp; omega⟩,by simp⟩

@[simp] theorem t480 (k0 : Bool) (l : List XVal) (h : l.length ≤ 1048576) : Gw TT 480 [.one (.ro k0 (.sl 3 (l.map XVal.e)))] = some (.st [.ro false (di (zoneF l).Lo.Ty),.ro false (di (zoneF l).Lo.N),.ro false (.str (zoneF l).Lo.S),.ro false (di (zoneF l).Hi.Ty),.ro false (di (zoneF l).Hi.N),.ro false (.str (zoneF l).Hi.S)],[]):=by
 refine Ga pf480 pb480 ?_
 unfold pb480
 rcases l with _ | ⟨⟨vT,vN,vS⟩,t⟩
 ·refine Ud Oo ?_
  repeat intro hc
  simp [pf480,zoneF]
 ·have hz : zoneF (⟨vT,vN,vS⟩ :: t) = zoneL ⟨⟨vT,vN,vS⟩,⟨vT,vN,vS⟩⟩ (⟨vT,vN,vS⟩ :: t):=by
   simp only [zoneF,zoneL,List.foldl_cons,zoneS_self]
  rw [hz]
  obtain ⟨l,hl⟩ : ∃ l,l = (⟨vT,vN,vS⟩ :: t : List XVal):=⟨_,rfl⟩
  have hl0 : l[0]? = some ⟨vT,vN,vS⟩:=by rw [hl]; try rfl
  obtain ⟨hlp,hle⟩:=List.getElem?_eq_some_iff.1 hl0
  have hn : ¬ l.length = 0:=by omega
  have hn2 : ¬ (l.length : Int) = 0:=by omega
  have hn3 : ¬ l = []:=by intro e; rw [e] at hn; simp at hn
  rw [← hl] at h ⊢
  refine Ud (J6 hlp hle hn hn2 hn3 hl0) ?_ ?_
  all_goals repeat intro hc
  ·exact absurd hc hn3
  refine wp_loopI (σ:=List XVal × List XVal × XZone) (fun s => [(2,AV.bx 2 0,some (Rt.bx [C.ro false (di 0),C.ro false (di 0),C.ro false (D.str ⟨#[]⟩),C.ro false (di 0),C.ro false (di 0),C.ro false (D.str ⟨#[]⟩)])),(3,AV.bx 3 0,some (Rt.bx [C.ro false (di s.2.2.Lo.Ty),C.ro false (di s.2.2.Lo.N),C.ro false (D.str s.2.2.Lo.S),C.ro false (di s.2.2.Hi.Ty),C.ro false (di s.2.2.Hi.N),C.ro false (D.str s.2.2.Hi.S)])),(17,AV.v k0 (D.sl 3 (l.map XVal.e)),none),(18,AV.v false (di (l.length : Nat)),none),(19,AV.v false (di ((s.1.length : Nat) : Int)),none)]) (fun s => l = s.1 ++ s.2.1 ∧ zoneL ⟨⟨vT,vN,vS⟩,⟨vT,vN,vS⟩⟩ l = zoneL s.2.2 s.2.1) (fun s => s.2.1.length) ([],l,⟨⟨vT,vN,vS⟩,⟨vT,vN,vS⟩⟩) (by simp) ⟨rfl,rfl⟩ ?_
  rintro ⟨pre,rest,⟨⟨aT,aN,aS⟩,⟨bT,bN,bS⟩⟩⟩ ⟨y1,y2⟩
  simp only at y1 y2
  have y3 : l.length = pre.length + rest.length:=by rw [y1,List.length_append]
  rcases rest with _ | ⟨⟨yT,yN,yS⟩,rest⟩
  ·simp only [List.length_nil] at y3
   have c1 : ¬ (pre.length : Int) < (l.length : Int):=by omega
   unfold pl480_0
   have y5 : zoneL ⟨⟨vT,vN,vS⟩,⟨vT,vN,vS⟩⟩ l = ⟨⟨aT,aN,aS⟩,⟨bT,bN,bS⟩⟩:=y2
   refine Ud c1 ?_
   repeat intro hc
   simp [pf480,y5]
  ·simp only [List.length_cons] at y3
   have hg : l[pre.length]? = some ⟨yT,yN,yS⟩:=by rw [y1]; simp
   obtain ⟨hlt,hge⟩:=List.getElem?_eq_some_iff.1 hg
   have c1 : (pre.length : Int) < (l.length : Int):=by omega
   have hw:=Wi ((pre.length : Int) + 1)
   unfold pl480_0
   cases q1 : ltVF yT yN yS aT aN aS
   all_goals cases q2 : ltVF bT bN bS yT yN yS
   all_goals skip
   ·refine Ud (J7 c1 hw hg hlt hge q1 q2) ?_
    repeat intro hc
    exact ⟨(pre ++ [⟨yT,yN,yS⟩],rest,⟨⟨aT,aN,aS⟩,⟨bT,bN,bS⟩⟩),(by simp; try omega),⟨by rw [y1]; simp,by rw [y2]; simp [zoneL,zoneS,ltV,q1,q2]⟩,by simp⟩
   ·refine Ud (J7 c1 hw hg hlt hge q1 q2) ?_
    repeat intro hc
    exact ⟨(pre ++ [⟨yT,yN,yS⟩],rest,⟨⟨aT,aN,aS⟩,⟨yT,yN,yS⟩⟩),(by simp; try omega),⟨by rw [y1]; simp,by rw [y2]; simp [zoneL,zoneS,ltV,q1,q2]⟩,by simp⟩
   ·refine Ud (J7 c1 hw hg hlt hge q1 q2) ?_
    repeat intro hc
    exact ⟨(pre ++ [⟨yT,yN,yS⟩],rest,⟨⟨yT,yN,yS⟩,⟨bT,bN,bS⟩⟩),(by simp; try omega),⟨by rw [y1]; simp,by rw [y2]; simp [zoneL,zoneS,ltV,q1,q2]⟩,by simp⟩
   ·refine Ud (J7 c1 hw hg hlt hge q1 q2) ?_
    repeat intro hc
    exact ⟨(pre ++ [⟨yT,yN,yS⟩],rest,⟨⟨yT,yN,yS⟩,⟨yT,yN,yS⟩⟩),(by simp; try omega),⟨by rw [y1]; simp,by rw [y2]; simp [zoneL,zoneS,ltV,q1,q2]⟩,by simp⟩

/-- The zone of what is behind,and of what is ahead. -/
def zoneO (p : List XVal) (z : XZone) (r : List XVal) : XZone:=if p = [] then zoneF r else zoneL z r

@[simp] theorem t476 (k0 : Bool) (l : List XVal) (h : l.length ≤ 1048576) : Gw TT 476 [.one (.ro k0 (.sl 3 (l.map XVal.e)))] = some (.st [.ro false (di (zoneF l).Lo.Ty),.ro false (di (zoneF l).Lo.N),.ro false (.str (zoneF l).Lo.S),.ro false (di (zoneF l).Hi.Ty),.ro false (di (zoneF l).Hi.N),.ro false (.str (zoneF l).Hi.S)],[]):=by
 refine Ga pf476 pb476 ?_
 unfold pb476
 refine Ud Oo ?_
 refine wp_loopI (σ:=List XVal × List XVal × XZone) (fun s => [(0,AV.v k0 (D.sl 3 (l.map XVal.e)),none),(2,AV.bx 2 0,some (Rt.bx [C.ro false (di 0),C.ro false (di 0),C.ro false (D.str ⟨#[]⟩),C.ro false (di 0),C.ro false (di 0),C.ro false (D.str ⟨#[]⟩)])),(3,AV.bx 3 0,some (Rt.bx [C.ro false (di s.2.2.Lo.Ty),C.ro false (di s.2.2.Lo.N),C.ro false (D.str s.2.2.Lo.S),C.ro false (di s.2.2.Hi.Ty),C.ro false (di s.2.2.Hi.N),C.ro false (D.str s.2.2.Hi.S)])),(4,AV.v false (di ((s.1.length : Nat) : Int)),none)]) (fun s => l = s.1 ++ s.2.1 ∧ zoneF l = zoneO s.1 s.2.2 s.2.1 ∧ (s.1 = [] → s.2.2 = ⟨⟨0,0,⟨#[]⟩⟩,⟨0,0,⟨#[]⟩⟩⟩)) (fun s => s.2.1.length) ([],l,⟨⟨0,0,⟨#[]⟩⟩,⟨0,0,⟨#[]⟩⟩⟩) (by simp) ⟨rfl,rfl,fun _ => rfl⟩ ?_
 rintro ⟨pre,rest,⟨⟨aT,aN,aS⟩,⟨bT,bN,bS⟩⟩⟩ ⟨y1,y2,y4⟩
 simp only at y1 y2 y4
 have y3 : l.length = pre.length + rest.length:=by rw [y1,List.length_append]
 rcases rest with _ | ⟨⟨yT,yN,yS⟩,rest⟩
 ·simp only [List.length_nil] at y3
  have c1 : ¬ (pre.length : Int) < (l.length : Int):=by omega
  have hf : zoneF l = ⟨⟨aT,aN,aS⟩,⟨bT,bN,bS⟩⟩:=by
   rw [y2]; unfold zoneO; split
   ·rename_i e; rw [y4 e]; try rfl
   ·rfl
  unfold pl476_0
  refine Ud c1 ?_
  repeat intro hc
  simp [pf476,hf]
 ·simp only [List.length_cons] at y3
  have hg : l[pre.length]? = some ⟨yT,yN,yS⟩:=by rw [y1]; simp
  obtain ⟨hlt,hge⟩:=List.getElem?_eq_some_iff.1 hg
  have c1 : (pre.length : Int) < (l.length : Int):=by omega
  have hw:=Wi ((pre.length : Int) + 1)
  unfold pl476_0
  by_cases p0 : pre = []
  ·subst p0
   simp only [List.length_nil] at hg hlt hge c1 hw
   have c2 : (0 : Int) < (l.length : Int):=by omega
   refine Ud (J6 c1 c2 hw hg hlt hge) ?_
   repeat intro hc
   exact ⟨([⟨yT,yN,yS⟩],rest,⟨⟨yT,yN,yS⟩,⟨yT,yN,yS⟩⟩),(by simp; try omega),⟨by rw [y1]; simp,by rw [y2]; simp [zoneO,zoneF],fun e => by simp at e⟩,by simp⟩
  ·have p1 : ¬ (pre.length : Int) = 0:=by cases pre; exact absurd rfl p0; simp; omega
   have p2 : ¬ pre.length = 0:=by omega
   simp only [zoneO,if_neg p0] at y2
   cases q1 : ltVF yT yN yS aT aN aS
   all_goals cases q2 : ltVF bT bN bS yT yN yS
   all_goals skip
   ·refine Ud (J8 c1 hw hg hlt hge p0 p1 (J3 p2 q1 q2)) ?_
    repeat intro hc
    exact ⟨(pre ++ [⟨yT,yN,yS⟩],rest,⟨⟨aT,aN,aS⟩,⟨bT,bN,bS⟩⟩),(by simp; try omega),⟨by rw [y1]; simp,by rw [y2]; simp [zoneO,zoneL,zoneS,ltV,q1,q2],fun e => by simp at e⟩,by simp⟩
   ·refine Ud (J8 c1 hw hg hlt hge p0 p1 (J3 p2 q1 q2)) ?_
    repeat intro hc
    exact ⟨(pre ++ [⟨yT,yN,yS⟩],rest,⟨⟨aT,aN,aS⟩,⟨yT,yN,yS⟩⟩),(by simp; try omega),⟨by rw [y1]; simp,by rw [y2]; simp [zoneO,zoneL,zoneS,ltV,q1,q2],fun e => by simp at e⟩,by simp⟩
   ·refine Ud (J8 c1 hw hg hlt hge p0 p1 (J3 p2 q1 q2)) ?_
    repeat intro hc
    exact ⟨(pre ++ [⟨yT,yN,yS⟩],rest,⟨⟨yT,yN,yS⟩,⟨bT,bN,bS⟩⟩),(by simp; try omega),⟨by rw [y1]; simp,by rw [y2]; simp [zoneO,zoneL,zoneS,ltV,q1,q2],fun e => by simp at e⟩,by simp⟩
   ·refine Ud (J8 c1 hw hg hlt hge p0 p1 (J3 p2 q1 q2)) ?_
    repeat intro hc
    exact ⟨(pre ++ [⟨yT,yN,yS⟩],rest,⟨⟨yT,yN,yS⟩,⟨yT,yN,yS⟩⟩),(by simp; try omega),⟨by rw [y1]; simp,by rw [y2]; simp [zoneO,zoneL,zoneS,ltV,q1,q2],fun e => by simp at e⟩,by simp⟩

end Go.Proofs.YtmlinnkaccgcgaaGreat.OM
