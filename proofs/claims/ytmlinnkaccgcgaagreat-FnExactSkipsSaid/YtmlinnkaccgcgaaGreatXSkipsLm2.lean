/- What the functions answer. -/
import Derived.Test.YtmlinnkaccgcgaaGreatXSkipsLm1
set_option linter.all false
namespace Go.Proofs.YtmlinnkaccgcgaaGreat.OM
set_option maxHeartbeats 4000000
set_option maxRecDepth 100000

@[simp] theorem t448 (k0 : Bool) (l : List XRow) (h : l.length ≤ 1048576) (hs : XRow.sms l) : Gw TT 448 [.one (.ro k0 (.sl 2 (l.map XRow.e)))] = some (.one (.own (.sl 6 ((zonesF l).map XZone.e))),[]):=by
 refine Ga pf448 pb448 ?_
 unfold pb448
 rcases l with _ | ⟨⟨r_Id,r_L⟩,t⟩
 ·refine Ud Oo ?_
  repeat intro hc
  simp [pf448,zonesF]
 ·have hz : zonesF (⟨r_Id,r_L⟩ :: t) = (List.range r_L.length).map fun k => zoneF (colN k (⟨r_Id,r_L⟩ :: t)):=rfl
  rw [hz]
  obtain ⟨l,hl⟩ : ∃ l,l = (⟨r_Id,r_L⟩ :: t : List XRow):=⟨_,rfl⟩
  have hl0 : l[0]? = some ⟨r_Id,r_L⟩:=by rw [hl]; try rfl
  obtain ⟨hlp,hle⟩:=List.getElem?_eq_some_iff.1 hl0
  have hn : ¬ l.length = 0:=by omega
  have hn2 : ¬ (l.length : Int) = 0:=by omega
  have hn3 : ¬ l = []:=by intro e; rw [e] at hn; simp at hn
  rw [← hl] at h hs ⊢
  have hrl : r_L.length ≤ 1048576:=(hs _ (List.mem_of_getElem? hl0)).1
  obtain ⟨n,hnn⟩ : ∃ n,n = r_L.length:=⟨_,rfl⟩
  rw [← hnn] at hrl ⊢
  repeat' first|refine Zs ?_|((with_reducible refine Xk fun K k=>?_);simp [hlp,hle,hn,hn2,hn3,hl0,← hnn];(repeat' (with_reducible first|refine k _ ?_|(refine psel ?_ ?_<;>(intro hc;(try rw [Decidable.not_not] at hc);first|(exfalso;omega)|(try simp [hc,hlp,hle,hn,hn2,hn3,hl0,← hnn])))));all_goals clear k K)|(refine We rfl ?_ ?_<;>intro hc<;>(try simp at hc)<;>first|(exfalso;omega)|skip)
  ·exact absurd hc hn3
  refine wp_loopI (σ:=Nat) (fun s => [(0,AV.v k0 (D.sl 2 (l.map XRow.e)),none),(3,AV.pl 3 0 [],some (Rt.vir [C.own (D.sl 6 (((List.range s).map fun k => zoneF (colN k l)).map XZone.e))])),(14,AV.v false (di (n : Nat)),none),(15,AV.v false (di (s : Nat)),none)]) (fun s => s ≤ n) (fun s => n - s) 0 (by simp) (Nat.zero_le _) ?_
  intro s y1
  by_cases c : s < n
  ·have c1 : (s : Int) < (n : Int):=by omega
   have hk : s ≤ 1048576:=by omega
   have hw:=Wi ((s : Int) + 1)
   have hc:=colN_len s l
   have g1:=fun k0 : Bool => t481 k0 l s h hs hk
   have g2:=fun k0 : Bool => t480 k0 (colN s l) (by omega)
   have hq : (s + 1) * 64 ≤ 70368744177664:=by omega
   unfold pl448_0
   repeat' first|refine Zs ?_|((with_reducible refine Xk fun K k=>?_);simp [c1,hw,hlp,hle,hn,hn2,hn3,hl0,← hnn,g1,g2,hq];(repeat' (with_reducible first|refine k _ ?_|(refine psel ?_ ?_<;>(intro hc;(try rw [Decidable.not_not] at hc);first|(exfalso;omega)|(try simp [hc,c1,hw,hlp,hle,hn,hn2,hn3,hl0,← hnn,g1,g2,hq])))));all_goals clear k K)|(refine We rfl ?_ ?_<;>intro hc<;>(try simp at hc)<;>first|(exfalso;omega)|skip)
   exact ⟨s + 1,by simp [List.range_succ],by omega,by omega⟩
  ·have c1 : ¬ (s : Int) < (n : Int):=by omega
   obtain rfl : s = n:=by omega
   unfold pl448_0
   repeat' first|refine Zs ?_|((with_reducible refine Xk fun K k=>?_);simp [c1,hlp,hle,hl0,← hnn];(repeat' (with_reducible first|refine k _ ?_|(refine psel ?_ ?_<;>(intro hc;(try rw [Decidable.not_not] at hc);first|(exfalso;omega)|(try simp [hc,c1,hlp,hle,hl0,← hnn])))));all_goals clear k K)|(refine We rfl ?_ ?_<;>intro hc<;>(try simp at hc)<;>first|(exfalso;omega)|skip)
   simp [pf448]

@[simp] theorem t445 (k0 : Bool) (l : List XRow) (h : l.length ≤ 1048576) (hs : XRow.sms l) : Gw TT 445 [.one (.ro k0 (.sl 2 (l.map XRow.e)))] = some (.one (.own (.sl 6 ((zonesF l).map XZone.e))),[]):=by
 refine Ga pf445 pb445 ?_
 unfold pb445
 rcases l with _ | ⟨⟨r_Id,r_L⟩,t⟩
 ·refine Ud Oo ?_
  repeat intro hc
  simp [pf445,zonesF]
 ·have hz : zonesF (⟨r_Id,r_L⟩ :: t) = (List.range r_L.length).map fun k => zoneF (colN k (⟨r_Id,r_L⟩ :: t)):=rfl
  rw [hz]
  obtain ⟨l,hl⟩ : ∃ l,l = (⟨r_Id,r_L⟩ :: t : List XRow):=⟨_,rfl⟩
  have hl0 : l[0]? = some ⟨r_Id,r_L⟩:=by rw [hl]; try rfl
  obtain ⟨hlp,hle⟩:=List.getElem?_eq_some_iff.1 hl0
  have hn : ¬ l.length = 0:=by omega
  have hn2 : ¬ (l.length : Int) = 0:=by omega
  have hn3 : ¬ l = []:=by intro e; rw [e] at hn; simp at hn
  rw [← hl] at h hs ⊢
  have hrl : r_L.length ≤ 1048576:=(hs _ (List.mem_of_getElem? hl0)).1
  obtain ⟨n,hnn⟩ : ∃ n,n = r_L.length:=⟨_,rfl⟩
  rw [← hnn] at hrl ⊢
  repeat' first|refine Zs ?_|((with_reducible refine Xk fun K k=>?_);simp [hlp,hle,hn,hn2,hn3,hl0,← hnn];(repeat' (with_reducible first|refine k _ ?_|(refine psel ?_ ?_<;>(intro hc;(try rw [Decidable.not_not] at hc);first|(exfalso;omega)|(try simp [hc,hlp,hle,hn,hn2,hn3,hl0,← hnn])))));all_goals clear k K)|(refine We rfl ?_ ?_<;>intro hc<;>(try simp at hc)<;>first|(exfalso;omega)|skip)
  ·exact absurd hc hn3
  refine wp_loopI (σ:=Nat) (fun s => [(0,AV.v k0 (D.sl 2 (l.map XRow.e)),none),(3,AV.pl 3 0 [],some (Rt.vir [C.own (D.sl 6 (((List.range s).map fun k => zoneF (colN k l)).map XZone.e))])),(4,AV.v false (di (s : Nat)),none)]) (fun s => s ≤ n) (fun s => n - s) 0 (by simp) (Nat.zero_le _) ?_
  intro s y1
  by_cases c : s < n
  ·have c1 : (s : Int) < (n : Int):=by omega
   have hk : s ≤ 1048576:=by omega
   have hw:=Wi ((s : Int) + 1)
   have hc:=colN_len s l
   have g1:=fun k0 : Bool => t477 k0 l s h hs hk
   have g2:=fun k0 : Bool => t476 k0 (colN s l) (by omega)
   have hq : (s + 1) * 64 ≤ 70368744177664:=by omega
   unfold pl445_0
   repeat' first|refine Zs ?_|((with_reducible refine Xk fun K k=>?_);simp [c1,hw,hlp,hle,hn,hn2,hn3,hl0,← hnn,g1,g2,hq];(repeat' (with_reducible first|refine k _ ?_|(refine psel ?_ ?_<;>(intro hc;(try rw [Decidable.not_not] at hc);first|(exfalso;omega)|(try simp [hc,c1,hw,hlp,hle,hn,hn2,hn3,hl0,← hnn,g1,g2,hq])))));all_goals clear k K)|(refine We rfl ?_ ?_<;>intro hc<;>(try simp at hc)<;>first|(exfalso;omega)|skip)
   exact ⟨s + 1,by simp [List.range_succ],by omega,by omega⟩
  ·have c1 : ¬ (s : Int) < (n : Int):=by omega
   obtain rfl : s = n:=by omega
   unfold pl445_0
   repeat' first|refine Zs ?_|((with_reducible refine Xk fun K k=>?_);simp [c1,hlp,hle,hl0,← hnn];(repeat' (with_reducible first|refine k _ ?_|(refine psel ?_ ?_<;>(intro hc;(try rw [Decidable.not_not] at hc);first|(exfalso;omega)|(try simp [hc,c1,hlp,hle,hl0,← hnn])))));all_goals clear k K)|(refine We rfl ?_ ?_<;>intro hc<;>(try simp at hc)<;>first|(exfalso;omega)|skip)
   simp [pf445]

def mhC (z : List XZone) (b : Bool) (c o : Int) (v : XVal) : Bool:=if 0 ≤ c then (match z[c.toNat]? with
 | some w => mh1F (if b = true then o else oppF o) w v
 | none => !b) else !b
mutual
def mhF (z : List XZone) : Bool → XPred → Bool
 | b,⟨k,c,o,v,l⟩ => if k = 1 then b else if k = 2 then mhC z b c o v else if k = 3 then (if b = true then mhAll z b l else mhAny z b l) else if k = 4 then (if b = true then mhAny z b l else mhAll z b l) else if k = 5 then mhNot z b l else !b
def mhAll (z : List XZone) : Bool → List XPred → Bool
 | _,[] => true
 | b,x :: l => mhF z b x && mhAll z b l
def mhAny (z : List XZone) : Bool → List XPred → Bool
 | _,[] => false
 | b,x :: l => mhF z b x || mhAny z b l
def mhNot (z : List XZone) : Bool → List XPred → Bool
 | _,[] => true
 | b,x :: _ => mhF z (!b) x
end
theorem mhC_out {z : List XZone} {b : Bool} {c o : Int} {v : XVal} (h : ¬ (0 ≤ c ∧ c < (z.length : Int))) : mhC z b c o v = !b:=by
 unfold mhC
 split
 ·rw [List.getElem?_eq_none (by omega)]
 ·rfl
theorem mhC_in {z : List XZone} {b : Bool} {m : Nat} {o : Int} {v : XVal} {w : XZone} (h : z[m]? = some w) : mhC z b (m : Int) o v = mh1F (if b = true then o else oppF o) w v:=by
 unfold mhC
 rw [if_pos (by omega),show ((m : Int)).toNat = m by omega,h]

theorem Mh447_of (k0 k1 : Bool) (zs : List XZone) (x_Kind x_Col x_Op x_V_Ty x_V_N : Int) (x_V_S : ByteArray) (x_L : List XPred) (hz : zs.length ≤ 1048576) (hl : x_L.length ≤ 1048576)
  (IH : ∀ k0 k1 : Bool,∀ y ∈ x_L,Gw TT 447 [.st [.ro false (di y.Kind),.ro false (di y.Col),.ro false (di y.Op),.ro false (di y.V.Ty),.ro false (di y.V.N),.ro false (.str y.V.S),.ro k0 (.sl 7 (y.L.map XPred.e))],.one (.ro k1 (.sl 6 (zs.map XZone.e)))] = some (vb (mhF zs true y),[]))
  (hIO : ∀ k0 k1 : Bool,∀ y ∈ x_L,Gw TT 479 [.st [.ro false (di y.Kind),.ro false (di y.Col),.ro false (di y.Op),.ro false (di y.V.Ty),.ro false (di y.V.N),.ro false (.str y.V.S),.ro k0 (.sl 7 (y.L.map XPred.e))],.one (.ro k1 (.sl 6 (zs.map XZone.e)))] = some (vb (mhF zs (!true) y),[])) :
  Gw TT 447 [.st [.ro false (di x_Kind),.ro false (di x_Col),.ro false (di x_Op),.ro false (di x_V_Ty),.ro false (di x_V_N),.ro false (.str x_V_S),.ro k0 (.sl 7 (x_L.map XPred.e))],.one (.ro k1 (.sl 6 (zs.map XZone.e)))] = some (vb (mhF zs true ⟨x_Kind,x_Col,x_Op,⟨x_V_Ty,x_V_N,x_V_S⟩,x_L⟩),[]):=by
 refine Ga pf447 pb447 ?_
 unfold pb447
 have w1:=Wi ((zs.length : Int) - 1)
 by_cases q1 : x_Kind = 1
 ·subst q1
  refine Ud Oo ?_
  repeat intro hc
  simp [pf447,mhF]
 by_cases q2 : x_Kind = 2
 ·subst q2
  by_cases q : 0 ≤ x_Col ∧ x_Col < (zs.length : Int)
  ·obtain ⟨m,rfl⟩:=Int.eq_ofNat_of_zero_le q.1
   have hm : m < zs.length:=by omega
   obtain ⟨⟨⟨aT,aN,aS⟩,⟨bT,bN,bS⟩⟩,hsm⟩ : ∃ s,zs[m]? = some s:=⟨_,List.getElem?_eq_getElem hm⟩
   have hse:=(List.getElem?_eq_some_iff.1 hsm).2
   have p0:=q.1
   have p1:=q.2
   have p2 : (m : Int) ≤ (zs.length : Int) - 1:=by omega
   have p3 : ¬ (m : Int) < 0:=by omega
   have p4 : ¬ (zs.length : Int) ≤ (m : Int):=by omega
   have hr : mhF zs true ⟨2,(m : Int),x_Op,⟨x_V_Ty,x_V_N,x_V_S⟩,x_L⟩ = mh1F (x_Op) ⟨⟨aT,aN,aS⟩,⟨bT,bN,bS⟩⟩ ⟨x_V_Ty,x_V_N,x_V_S⟩:=by simp [mhF,mhC_in hsm]
   refine Ud (J8 w1 p0 p1 p2 p3 p4 hm (J2 hsm hse)) ?_
   repeat intro hc
   simp [pf447,hr]
  ·have hr : mhF zs true ⟨2,x_Col,x_Op,⟨x_V_Ty,x_V_N,x_V_S⟩,x_L⟩ = !true:=by simp [mhF,mhC_out q]
   by_cases p0 : 0 ≤ x_Col
   ·have p1 : ¬ x_Col < (zs.length : Int):=fun e => q ⟨p0,e⟩
    have p2 : ¬ x_Col ≤ (zs.length : Int) - 1:=by omega
    have p3 : ¬ x_Col < 0:=by omega
    have p4 : (zs.length : Int) ≤ x_Col:=by omega
    refine Ud (J6 w1 p0 p1 p2 p3 p4) ?_
    repeat intro hc
    simp [pf447,hr]
   ·have p3 : x_Col < 0:=by omega
    refine Ud (J3 w1 p0 p3) ?_
    repeat intro hc
    simp [pf447,hr]
 by_cases q3 : x_Kind = 3
 ·subst q3
  have hr : mhF zs true ⟨3,x_Col,x_Op,⟨x_V_Ty,x_V_N,x_V_S⟩,x_L⟩ = mhAll zs true x_L:=by simp [mhF]
  rw [hr]
  refine Ud Oo ?_
  repeat intro hc
  refine wp_loopI (σ:=List XPred × List XPred) (fun s => [(1,AV.v k1 (D.sl 6 (zs.map XZone.e)),none),(2,AV.bx 2 0,some (Rt.bx [C.ro false (di 3),C.ro false (di x_Col),C.ro false (di x_Op),C.ro false (di x_V_Ty),C.ro false (di x_V_N),C.ro false (D.str x_V_S),C.ro k0 (D.sl 7 (x_L.map XPred.e))])),(40,AV.v k0 (D.sl 7 (x_L.map XPred.e)),none),(41,AV.v false (di (x_L.length : Nat)),none),(42,AV.v false (di ((s.1.length : Nat) : Int)),none)]) (fun s => x_L = s.1 ++ s.2 ∧ mhAll zs true x_L = mhAll zs true s.2) (fun s => s.2.length) ([],x_L) (by simp) ⟨rfl,rfl⟩ ?_
  rintro ⟨pre,rest⟩ ⟨y1,y2⟩
  simp only at y1 y2
  have y3 : x_L.length = pre.length + rest.length:=by rw [y1,List.length_append]
  rcases rest with _ | ⟨⟨y_Kind,y_Col,y_Op,⟨y_V_Ty,y_V_N,y_V_S⟩,y_L⟩,rest⟩
  ·simp only [List.length_nil] at y3
   simp only [mhAll] at y2
   have c1 : ¬ (pre.length : Int) < (x_L.length : Int):=by omega
   unfold pl447_1
   refine Ud c1 ?_
   repeat intro hc
   simp [pf447,y2]
  ·simp only [List.length_cons] at y3
   simp only [mhAll] at y2
   have hg : x_L[pre.length]? = some ⟨y_Kind,y_Col,y_Op,⟨y_V_Ty,y_V_N,y_V_S⟩,y_L⟩:=by rw [y1]; simp
   obtain ⟨hlt,hge⟩:=List.getElem?_eq_some_iff.1 hg
   have ih:=fun k0 k1 => IH k0 k1 _ (List.mem_of_getElem? hg)
   simp only at ih
   have c1 : (pre.length : Int) < (x_L.length : Int):=by omega
   have hw:=Wi ((pre.length : Int) + 1)
   unfold pl447_1
   cases qy : mhF zs true ⟨y_Kind,y_Col,y_Op,⟨y_V_Ty,y_V_N,y_V_S⟩,y_L⟩ with
   | false =>
    rw [qy] at ih y2
    refine Ud (J6 c1 hw hg hlt hge ih) ?_
    repeat intro hc
    simp [pf447,y2]
   | true =>
    rw [qy] at ih y2
    refine Ud (J6 c1 hw hg hlt hge ih) ?_
    repeat intro hc
    exact ⟨(pre ++ [⟨y_Kind,y_Col,y_Op,⟨y_V_Ty,y_V_N,y_V_S⟩,y_L⟩],rest),(by simp),⟨by rw [y1]; simp,by rw [y2]; simp⟩,by simp⟩
 by_cases q4 : x_Kind = 4
 ·subst q4
  have hr : mhF zs true ⟨4,x_Col,x_Op,⟨x_V_Ty,x_V_N,x_V_S⟩,x_L⟩ = mhAny zs true x_L:=by simp [mhF]
  rw [hr]
  refine Ud Oo ?_
  repeat intro hc
  refine wp_loopI (σ:=List XPred × List XPred) (fun s => [(1,AV.v k1 (D.sl 6 (zs.map XZone.e)),none),(2,AV.bx 2 0,some (Rt.bx [C.ro false (di 4),C.ro false (di x_Col),C.ro false (di x_Op),C.ro false (di x_V_Ty),C.ro false (di x_V_N),C.ro false (D.str x_V_S),C.ro k0 (D.sl 7 (x_L.map XPred.e))])),(54,AV.v k0 (D.sl 7 (x_L.map XPred.e)),none),(55,AV.v false (di (x_L.length : Nat)),none),(56,AV.v false (di ((s.1.length : Nat) : Int)),none)]) (fun s => x_L = s.1 ++ s.2 ∧ mhAny zs true x_L = mhAny zs true s.2) (fun s => s.2.length) ([],x_L) (by simp) ⟨rfl,rfl⟩ ?_
  rintro ⟨pre,rest⟩ ⟨y1,y2⟩
  simp only at y1 y2
  have y3 : x_L.length = pre.length + rest.length:=by rw [y1,List.length_append]
  rcases rest with _ | ⟨⟨y_Kind,y_Col,y_Op,⟨y_V_Ty,y_V_N,y_V_S⟩,y_L⟩,rest⟩
  ·simp only [List.length_nil] at y3
   simp only [mhAny] at y2
   have c1 : ¬ (pre.length : Int) < (x_L.length : Int):=by omega
   unfold pl447_0
   refine Ud c1 ?_
   repeat intro hc
   simp [pf447,y2]
  ·simp only [List.length_cons] at y3
   simp only [mhAny] at y2
   have hg : x_L[pre.length]? = some ⟨y_Kind,y_Col,y_Op,⟨y_V_Ty,y_V_N,y_V_S⟩,y_L⟩:=by rw [y1]; simp
   obtain ⟨hlt,hge⟩:=List.getElem?_eq_some_iff.1 hg
   have ih:=fun k0 k1 => IH k0 k1 _ (List.mem_of_getElem? hg)
   simp only at ih
   have c1 : (pre.length : Int) < (x_L.length : Int):=by omega
   have hw:=Wi ((pre.length : Int) + 1)
   unfold pl447_0
   cases qy : mhF zs true ⟨y_Kind,y_Col,y_Op,⟨y_V_Ty,y_V_N,y_V_S⟩,y_L⟩ with
   | true =>
    rw [qy] at ih y2
    refine Ud (J6 c1 hw hg hlt hge ih) ?_
    repeat intro hc
    simp [pf447,y2]
   | false =>
    rw [qy] at ih y2
    refine Ud (J6 c1 hw hg hlt hge ih) ?_
    repeat intro hc
    exact ⟨(pre ++ [⟨y_Kind,y_Col,y_Op,⟨y_V_Ty,y_V_N,y_V_S⟩,y_L⟩],rest),(by simp),⟨by rw [y1]; simp,by rw [y2]; simp⟩,by simp⟩
 by_cases q5 : x_Kind = 5
 ·subst q5
  rcases x_L with _ | ⟨⟨y_Kind,y_Col,y_Op,⟨y_V_Ty,y_V_N,y_V_S⟩,y_L⟩,rest⟩
  ·refine Ud Oo ?_
   repeat intro hc
   simp [pf447,mhF,mhNot]
  ·have io:=fun k0 k1 => hIO k0 k1 _ (List.mem_cons_self ..)
   simp only at io
   refine Ud io ?_
   repeat intro hc
   simp [pf447,mhF,mhNot]
 refine Ud (J5 q1 q2 q3 q4 q5) ?_
 repeat intro hc
 simp [pf447,mhF,q1,q2,q3,q4,q5]

theorem Mh479_of (k0 k1 : Bool) (zs : List XZone) (x_Kind x_Col x_Op x_V_Ty x_V_N : Int) (x_V_S : ByteArray) (x_L : List XPred) (hz : zs.length ≤ 1048576) (hl : x_L.length ≤ 1048576)
  (IH : ∀ k0 k1 : Bool,∀ y ∈ x_L,Gw TT 479 [.st [.ro false (di y.Kind),.ro false (di y.Col),.ro false (di y.Op),.ro false (di y.V.Ty),.ro false (di y.V.N),.ro false (.str y.V.S),.ro k0 (.sl 7 (y.L.map XPred.e))],.one (.ro k1 (.sl 6 (zs.map XZone.e)))] = some (vb (mhF zs false y),[]))
  (hIO : ∀ k0 k1 : Bool,∀ y ∈ x_L,Gw TT 447 [.st [.ro false (di y.Kind),.ro false (di y.Col),.ro false (di y.Op),.ro false (di y.V.Ty),.ro false (di y.V.N),.ro false (.str y.V.S),.ro k0 (.sl 7 (y.L.map XPred.e))],.one (.ro k1 (.sl 6 (zs.map XZone.e)))] = some (vb (mhF zs (!false) y),[])) :
  Gw TT 479 [.st [.ro false (di x_Kind),.ro false (di x_Col),.ro false (di x_Op),.ro false (di x_V_Ty),.ro false (di x_V_N),.ro false (.str x_V_S),.ro k0 (.sl 7 (x_L.map XPred.e))],.one (.ro k1 (.sl 6 (zs.map XZone.e)))] = some (vb (mhF zs false ⟨x_Kind,x_Col,x_Op,⟨x_V_Ty,x_V_N,x_V_S⟩,x_L⟩),[]):=by
 refine Ga pf479 pb479 ?_
 unfold pb479
 have w1:=Wi ((zs.length : Int) - 1)
 by_cases q1 : x_Kind = 1
 ·subst q1
  refine Ud Oo ?_
  repeat intro hc
  simp [pf479,mhF]
 by_cases q2 : x_Kind = 2
 ·subst q2
  by_cases q : 0 ≤ x_Col ∧ x_Col < (zs.length : Int)
  ·obtain ⟨m,rfl⟩:=Int.eq_ofNat_of_zero_le q.1
   have hm : m < zs.length:=by omega
   obtain ⟨⟨⟨aT,aN,aS⟩,⟨bT,bN,bS⟩⟩,hsm⟩ : ∃ s,zs[m]? = some s:=⟨_,List.getElem?_eq_getElem hm⟩
   have hse:=(List.getElem?_eq_some_iff.1 hsm).2
   have p0:=q.1
   have p1:=q.2
   have p2 : (m : Int) ≤ (zs.length : Int) - 1:=by omega
   have p3 : ¬ (m : Int) < 0:=by omega
   have p4 : ¬ (zs.length : Int) ≤ (m : Int):=by omega
   have hr : mhF zs false ⟨2,(m : Int),x_Op,⟨x_V_Ty,x_V_N,x_V_S⟩,x_L⟩ = mh1F (oppF x_Op) ⟨⟨aT,aN,aS⟩,⟨bT,bN,bS⟩⟩ ⟨x_V_Ty,x_V_N,x_V_S⟩:=by simp [mhF,mhC_in hsm]
   refine Ud (J8 w1 p0 p1 p2 p3 p4 hm (J2 hsm hse)) ?_
   repeat intro hc
   simp [pf479,hr]
  ·have hr : mhF zs false ⟨2,x_Col,x_Op,⟨x_V_Ty,x_V_N,x_V_S⟩,x_L⟩ = !false:=by simp [mhF,mhC_out q]
   by_cases p0 : 0 ≤ x_Col
   ·have p1 : ¬ x_Col < (zs.length : Int):=fun e => q ⟨p0,e⟩
    have p2 : ¬ x_Col ≤ (zs.length : Int) - 1:=by omega
    have p3 : ¬ x_Col < 0:=by omega
    have p4 : (zs.length : Int) ≤ x_Col:=by omega
    refine Ud (J6 w1 p0 p1 p2 p3 p4) ?_
    repeat intro hc
    simp [pf479,hr]
   ·have p3 : x_Col < 0:=by omega
    refine Ud (J3 w1 p0 p3) ?_
    repeat intro hc
    simp [pf479,hr]
 by_cases q3 : x_Kind = 3
 ·subst q3
  have hr : mhF zs false ⟨3,x_Col,x_Op,⟨x_V_Ty,x_V_N,x_V_S⟩,x_L⟩ = mhAny zs false x_L:=by simp [mhF]
  rw [hr]
  refine Ud Oo ?_
  repeat intro hc
  refine wp_loopI (σ:=List XPred × List XPred) (fun s => [(1,AV.v k1 (D.sl 6 (zs.map XZone.e)),none),(2,AV.bx 2 0,some (Rt.bx [C.ro false (di 3),C.ro false (di x_Col),C.ro false (di x_Op),C.ro false (di x_V_Ty),C.ro false (di x_V_N),C.ro false (D.str x_V_S),C.ro k0 (D.sl 7 (x_L.map XPred.e))])),(55,AV.v k0 (D.sl 7 (x_L.map XPred.e)),none),(56,AV.v false (di (x_L.length : Nat)),none),(57,AV.v false (di ((s.1.length : Nat) : Int)),none)]) (fun s => x_L = s.1 ++ s.2 ∧ mhAny zs false x_L = mhAny zs false s.2) (fun s => s.2.length) ([],x_L) (by simp) ⟨rfl,rfl⟩ ?_
  rintro ⟨pre,rest⟩ ⟨y1,y2⟩
  simp only at y1 y2
  have y3 : x_L.length = pre.length + rest.length:=by rw [y1,List.length_append]
  rcases rest with _ | ⟨⟨y_Kind,y_Col,y_Op,⟨y_V_Ty,y_V_N,y_V_S⟩,y_L⟩,rest⟩
  ·simp only [List.length_nil] at y3
   simp only [mhAny] at y2
   have c1 : ¬ (pre.length : Int) < (x_L.length : Int):=by omega
   unfold pl479_1
   refine Ud c1 ?_
   repeat intro hc
   simp [pf479,y2]
  ·simp only [List.length_cons] at y3
   simp only [mhAny] at y2
   have hg : x_L[pre.length]? = some ⟨y_Kind,y_Col,y_Op,⟨y_V_Ty,y_V_N,y_V_S⟩,y_L⟩:=by rw [y1]; simp
   obtain ⟨hlt,hge⟩:=List.getElem?_eq_some_iff.1 hg
   have ih:=fun k0 k1 => IH k0 k1 _ (List.mem_of_getElem? hg)
   simp only at ih
   have c1 : (pre.length : Int) < (x_L.length : Int):=by omega
   have hw:=Wi ((pre.length : Int) + 1)
   unfold pl479_1
   cases qy : mhF zs false ⟨y_Kind,y_Col,y_Op,⟨y_V_Ty,y_V_N,y_V_S⟩,y_L⟩ with
   | true =>
    rw [qy] at ih y2
    refine Ud (J6 c1 hw hg hlt hge ih) ?_
    repeat intro hc
    simp [pf479,y2]
   | false =>
    rw [qy] at ih y2
    refine Ud (J6 c1 hw hg hlt hge ih) ?_
    repeat intro hc
    exact ⟨(pre ++ [⟨y_Kind,y_Col,y_Op,⟨y_V_Ty,y_V_N,y_V_S⟩,y_L⟩],rest),(by simp),⟨by rw [y1]; simp,by rw [y2]; simp⟩,by simp⟩
 by_cases q4 : x_Kind = 4
 ·subst q4
  have hr : mhF zs false ⟨4,x_Col,x_Op,⟨x_V_Ty,x_V_N,x_V_S⟩,x_L⟩ = mhAll zs false x_L:=by simp [mhF]
  rw [hr]
  refine Ud Oo ?_
  repeat intro hc
  refine wp_loopI (σ:=List XPred × List XPred) (fun s => [(1,AV.v k1 (D.sl 6 (zs.map XZone.e)),none),(2,AV.bx 2 0,some (Rt.bx [C.ro false (di 4),C.ro false (di x_Col),C.ro false (di x_Op),C.ro false (di x_V_Ty),C.ro false (di x_V_N),C.ro false (D.str x_V_S),C.ro k0 (D.sl 7 (x_L.map XPred.e))])),(68,AV.v k0 (D.sl 7 (x_L.map XPred.e)),none),(69,AV.v false (di (x_L.length : Nat)),none),(70,AV.v false (di ((s.1.length : Nat) : Int)),none)]) (fun s => x_L = s.1 ++ s.2 ∧ mhAll zs false x_L = mhAll zs false s.2) (fun s => s.2.length) ([],x_L) (by simp) ⟨rfl,rfl⟩ ?_
  rintro ⟨pre,rest⟩ ⟨y1,y2⟩
  simp only at y1 y2
  have y3 : x_L.length = pre.length + rest.length:=by rw [y1,List.length_append]
  rcases rest with _ | ⟨⟨y_Kind,y_Col,y_Op,⟨y_V_Ty,y_V_N,y_V_S⟩,y_L⟩,rest⟩
  ·simp only [List.length_nil] at y3
   simp only [mhAll] at y2
   have c1 : ¬ (pre.length : Int) < (x_L.length : Int):=by omega
   unfold pl479_0
   refine Ud c1 ?_
   repeat intro hc
   simp [pf479,y2]
  ·simp only [List.length_cons] at y3
   simp only [mhAll] at y2
   have hg : x_L[pre.length]? = some ⟨y_Kind,y_Col,y_Op,⟨y_V_Ty,y_V_N,y_V_S⟩,y_L⟩:=by rw [y1]; simp
   obtain ⟨hlt,hge⟩:=List.getElem?_eq_some_iff.1 hg
   have ih:=fun k0 k1 => IH k0 k1 _ (List.mem_of_getElem? hg)
   simp only at ih
   have c1 : (pre.length : Int) < (x_L.length : Int):=by omega
   have hw:=Wi ((pre.length : Int) + 1)
   unfold pl479_0
   cases qy : mhF zs false ⟨y_Kind,y_Col,y_Op,⟨y_V_Ty,y_V_N,y_V_S⟩,y_L⟩ with
   | false =>
    rw [qy] at ih y2
    refine Ud (J6 c1 hw hg hlt hge ih) ?_
    repeat intro hc
    simp [pf479,y2]
   | true =>
    rw [qy] at ih y2
    refine Ud (J6 c1 hw hg hlt hge ih) ?_
    repeat intro hc
    exact ⟨(pre ++ [⟨y_Kind,y_Col,y_Op,⟨y_V_Ty,y_V_N,y_V_S⟩,y_L⟩],rest),(by simp),⟨by rw [y1]; simp,by rw [y2]; simp⟩,by simp⟩
 by_cases q5 : x_Kind = 5
 ·subst q5
  rcases x_L with _ | ⟨⟨y_Kind,y_Col,y_Op,⟨y_V_Ty,y_V_N,y_V_S⟩,y_L⟩,rest⟩
  ·refine Ud Oo ?_
   repeat intro hc
   simp [pf479,mhF,mhNot]
  ·have io:=fun k0 k1 => hIO k0 k1 _ (List.mem_cons_self ..)
   simp only at io
   refine Ud io ?_
   repeat intro hc
   simp [pf479,mhF,mhNot]
 refine Ud (J5 q1 q2 q3 q4 q5) ?_
 repeat intro hc
 simp [pf479,mhF,q1,q2,q3,q4,q5]

theorem Mh444_of (k0 k1 : Bool) (zs : List XZone) (x_Kind x_Col x_Op x_V_Ty x_V_N : Int) (x_V_S : ByteArray) (x_L : List XPred) (hz : zs.length ≤ 1048576) (hl : x_L.length ≤ 1048576)
  (IH : ∀ k0 k1 : Bool,∀ y ∈ x_L,Gw TT 444 [.st [.ro false (di y.Kind),.ro false (di y.Col),.ro false (di y.Op),.ro false (di y.V.Ty),.ro false (di y.V.N),.ro false (.str y.V.S),.ro k0 (.sl 7 (y.L.map XPred.e))],.one (.ro k1 (.sl 6 (zs.map XZone.e)))] = some (vb (mhF zs true y),[]))
  (hIO : ∀ k0 k1 : Bool,∀ y ∈ x_L,Gw TT 475 [.st [.ro false (di y.Kind),.ro false (di y.Col),.ro false (di y.Op),.ro false (di y.V.Ty),.ro false (di y.V.N),.ro false (.str y.V.S),.ro k0 (.sl 7 (y.L.map XPred.e))],.one (.ro k1 (.sl 6 (zs.map XZone.e)))] = some (vb (mhF zs (!true) y),[])) :
  Gw TT 444 [.st [.ro false (di x_Kind),.ro false (di x_Col),.ro false (di x_Op),.ro false (di x_V_Ty),.ro false (di x_V_N),.ro false (.str x_V_S),.ro k0 (.sl 7 (x_L.map XPred.e))],.one (.ro k1 (.sl 6 (zs.map XZone.e)))] = some (vb (mhF zs true ⟨x_Kind,x_Col,x_Op,⟨x_V_Ty,x_V_N,x_V_S⟩,x_L⟩),[]):=by
 refine Ga pf444 pb444 ?_
 unfold pb444
 have w1:=Wi ((zs.length : Int) - 1)
 by_cases q1 : x_Kind = 1
 ·subst q1
  refine Ud Oo ?_
  repeat intro hc
  simp [pf444,mhF]
 by_cases q2 : x_Kind = 2
 ·subst q2
  by_cases q : 0 ≤ x_Col ∧ x_Col < (zs.length : Int)
  ·obtain ⟨m,rfl⟩:=Int.eq_ofNat_of_zero_le q.1
   have hm : m < zs.length:=by omega
   obtain ⟨⟨⟨aT,aN,aS⟩,⟨bT,bN,bS⟩⟩,hsm⟩ : ∃ s,zs[m]? = some s:=⟨_,List.getElem?_eq_getElem hm⟩
   have hse:=(List.getElem?_eq_some_iff.1 hsm).2
   have p0:=q.1
   have p1:=q.2
   have p2 : (m : Int) ≤ (zs.length : Int) - 1:=by omega
   have p3 : ¬ (m : Int) < 0:=by omega
   have p4 : ¬ (zs.length : Int) ≤ (m : Int):=by omega
   have hr : mhF zs true ⟨2,(m : Int),x_Op,⟨x_V_Ty,x_V_N,x_V_S⟩,x_L⟩ = mh1F (x_Op) ⟨⟨aT,aN,aS⟩,⟨bT,bN,bS⟩⟩ ⟨x_V_Ty,x_V_N,x_V_S⟩:=by simp [mhF,mhC_in hsm]
   refine Ud (J8 w1 p0 p1 p2 p3 p4 hm (J2 hsm hse)) ?_
   repeat intro hc
   simp [pf444,hr]
  ·have hr : mhF zs true ⟨2,x_Col,x_Op,⟨x_V_Ty,x_V_N,x_V_S⟩,x_L⟩ = !true:=by simp [mhF,mhC_out q]
   by_cases p0 : 0 ≤ x_Col
   ·have p1 : ¬ x_Col < (zs.length : Int):=fun e => q ⟨p0,e⟩
    have p2 : ¬ x_Col ≤ (zs.length : Int) - 1:=by omega
    have p3 : ¬ x_Col < 0:=by omega
    have p4 : (zs.length : Int) ≤ x_Col:=by omega
    refine Ud (J6 w1 p0 p1 p2 p3 p4) ?_
    repeat intro hc
    simp [pf444,hr]
   ·have p3 : x_Col < 0:=by omega
    refine Ud (J3 w1 p0 p3) ?_
    repeat intro hc
    simp [pf444,hr]
 by_cases q3 : x_Kind = 3
 ·subst q3
  have hr : mhF zs true ⟨3,x_Col,x_Op,⟨x_V_Ty,x_V_N,x_V_S⟩,x_L⟩ = mhAll zs true x_L:=by simp [mhF]
  rw [hr]
  refine Ud Oo ?_
  repeat intro hc
  refine wp_loopI (σ:=List XPred × List XPred) (fun s => [(1,AV.v k1 (D.sl 6 (zs.map XZone.e)),none),(2,AV.bx 2 0,some (Rt.bx [C.ro false (di 3),C.ro false (di x_Col),C.ro false (di x_Op),C.ro false (di x_V_Ty),C.ro false (di x_V_N),C.ro false (D.str x_V_S),C.ro k0 (D.sl 7 (x_L.map XPred.e))])),(5,AV.v false (di ((s.1.length : Nat) : Int)),none)]) (fun s => x_L = s.1 ++ s.2 ∧ mhAll zs true x_L = mhAll zs true s.2) (fun s => s.2.length) ([],x_L) (by simp) ⟨rfl,rfl⟩ ?_
  rintro ⟨pre,rest⟩ ⟨y1,y2⟩
  simp only at y1 y2
  have y3 : x_L.length = pre.length + rest.length:=by rw [y1,List.length_append]
  rcases rest with _ | ⟨⟨y_Kind,y_Col,y_Op,⟨y_V_Ty,y_V_N,y_V_S⟩,y_L⟩,rest⟩
  ·simp only [List.length_nil] at y3
   simp only [mhAll] at y2
   have c1 : ¬ (pre.length : Int) < (x_L.length : Int):=by omega
   unfold pl444_1
   refine Ud c1 ?_
   repeat intro hc
   simp [pf444,y2]
  ·simp only [List.length_cons] at y3
   simp only [mhAll] at y2
   have hg : x_L[pre.length]? = some ⟨y_Kind,y_Col,y_Op,⟨y_V_Ty,y_V_N,y_V_S⟩,y_L⟩:=by rw [y1]; simp
   obtain ⟨hlt,hge⟩:=List.getElem?_eq_some_iff.1 hg
   have ih:=fun k0 k1 => IH k0 k1 _ (List.mem_of_getElem? hg)
   simp only at ih
   have c1 : (pre.length : Int) < (x_L.length : Int):=by omega
   have hw:=Wi ((pre.length : Int) + 1)
   unfold pl444_1
   cases qy : mhF zs true ⟨y_Kind,y_Col,y_Op,⟨y_V_Ty,y_V_N,y_V_S⟩,y_L⟩ with
   | false =>
    rw [qy] at ih y2
    refine Ud (J6 c1 hw hg hlt hge ih) ?_
    repeat intro hc
    simp [pf444,y2]
   | true =>
    rw [qy] at ih y2
    refine Ud (J6 c1 hw hg hlt hge ih) ?_
    repeat intro hc
    exact ⟨(pre ++ [⟨y_Kind,y_Col,y_Op,⟨y_V_Ty,y_V_N,y_V_S⟩,y_L⟩],rest),(by simp),⟨by rw [y1]; simp,by rw [y2]; simp⟩,by simp⟩
 by_cases q4 : x_Kind = 4
 ·subst q4
  have hr : mhF zs true ⟨4,x_Col,x_Op,⟨x_V_Ty,x_V_N,x_V_S⟩,x_L⟩ = mhAny zs true x_L:=by simp [mhF]
  rw [hr]
  refine Ud Oo ?_
  repeat intro hc
  refine wp_loopI (σ:=List XPred × List XPred) (fun s => [(1,AV.v k1 (D.sl 6 (zs.map XZone.e)),none),(2,AV.bx 2 0,some (Rt.bx [C.ro false (di 4),C.ro false (di x_Col),C.ro false (di x_Op),C.ro false (di x_V_Ty),C.ro false (di x_V_N),C.ro false (D.str x_V_S),C.ro k0 (D.sl 7 (x_L.map XPred.e))])),(6,AV.v false (di ((s.1.length : Nat) : Int)),none)]) (fun s => x_L = s.1 ++ s.2 ∧ mhAny zs true x_L = mhAny zs true s.2) (fun s => s.2.length) ([],x_L) (by simp) ⟨rfl,rfl⟩ ?_
  rintro ⟨pre,rest⟩ ⟨y1,y2⟩
  simp only at y1 y2
  have y3 : x_L.length = pre.length + rest.length:=by rw [y1,List.length_append]
  rcases rest with _ | ⟨⟨y_Kind,y_Col,y_Op,⟨y_V_Ty,y_V_N,y_V_S⟩,y_L⟩,rest⟩
  ·simp only [List.length_nil] at y3
   simp only [mhAny] at y2
   have c1 : ¬ (pre.length : Int) < (x_L.length : Int):=by omega
   unfold pl444_0
   refine Ud c1 ?_
   repeat intro hc
   simp [pf444,y2]
  ·simp only [List.length_cons] at y3
   simp only [mhAny] at y2
   have hg : x_L[pre.length]? = some ⟨y_Kind,y_Col,y_Op,⟨y_V_Ty,y_V_N,y_V_S⟩,y_L⟩:=by rw [y1]; simp
   obtain ⟨hlt,hge⟩:=List.getElem?_eq_some_iff.1 hg
   have ih:=fun k0 k1 => IH k0 k1 _ (List.mem_of_getElem? hg)
   simp only at ih
   have c1 : (pre.length : Int) < (x_L.length : Int):=by omega
   have hw:=Wi ((pre.length : Int) + 1)
   unfold pl444_0
   cases qy : mhF zs true ⟨y_Kind,y_Col,y_Op,⟨y_V_Ty,y_V_N,y_V_S⟩,y_L⟩ with
   | true =>
    rw [qy] at ih y2
    refine Ud (J6 c1 hw hg hlt hge ih) ?_
    repeat intro hc
    simp [pf444,y2]
   | false =>
    rw [qy] at ih y2
    refine Ud (J6 c1 hw hg hlt hge ih) ?_
    repeat intro hc
    exact ⟨(pre ++ [⟨y_Kind,y_Col,y_Op,⟨y_V_Ty,y_V_N,y_V_S⟩,y_L⟩],rest),(by simp),⟨by rw [y1]; simp,by rw [y2]; simp⟩,by simp⟩
 by_cases q5 : x_Kind = 5
 ·subst q5
  rcases x_L with _ | ⟨⟨y_Kind,y_Col,y_Op,⟨y_V_Ty,y_V_N,y_V_S⟩,y_L⟩,rest⟩
  ·refine Ud Oo ?_
   repeat intro hc
   simp [pf444,mhF,mhNot]
  ·have io:=fun k0 k1 => hIO k0 k1 _ (List.mem_cons_self ..)
   simp only at io
   refine Ud io ?_
   repeat intro hc
   simp [pf444,mhF,mhNot]
 refine Ud (J5 q1 q2 q3 q4 q5) ?_
 repeat intro hc
 simp [pf444,mhF,q1,q2,q3,q4,q5]

theorem Mh475_of (k0 k1 : Bool) (zs : List XZone) (x_Kind x_Col x_Op x_V_Ty x_V_N : Int) (x_V_S : ByteArray) (x_L : List XPred) (hz : zs.length ≤ 1048576) (hl : x_L.length ≤ 1048576)
  (IH : ∀ k0 k1 : Bool,∀ y ∈ x_L,Gw TT 475 [.st [.ro false (di y.Kind),.ro false (di y.Col),.ro false (di y.Op),.ro false (di y.V.Ty),.ro false (di y.V.N),.ro false (.str y.V.S),.ro k0 (.sl 7 (y.L.map XPred.e))],.one (.ro k1 (.sl 6 (zs.map XZone.e)))] = some (vb (mhF zs false y),[]))
  (hIO : ∀ k0 k1 : Bool,∀ y ∈ x_L,Gw TT 444 [.st [.ro false (di y.Kind),.ro false (di y.Col),.ro false (di y.Op),.ro false (di y.V.Ty),.ro false (di y.V.N),.ro false (.str y.V.S),.ro k0 (.sl 7 (y.L.map XPred.e))],.one (.ro k1 (.sl 6 (zs.map XZone.e)))] = some (vb (mhF zs (!false) y),[])) :
  Gw TT 475 [.st [.ro false (di x_Kind),.ro false (di x_Col),.ro false (di x_Op),.ro false (di x_V_Ty),.ro false (di x_V_N),.ro false (.str x_V_S),.ro k0 (.sl 7 (x_L.map XPred.e))],.one (.ro k1 (.sl 6 (zs.map XZone.e)))] = some (vb (mhF zs false ⟨x_Kind,x_Col,x_Op,⟨x_V_Ty,x_V_N,x_V_S⟩,x_L⟩),[]):=by
 refine Ga pf475 pb475 ?_
 unfold pb475
 have w1:=Wi ((zs.length : Int) - 1)
 by_cases q1 : x_Kind = 1
 ·subst q1
  refine Ud Oo ?_
  repeat intro hc
  simp [pf475,mhF]
 by_cases q2 : x_Kind = 2
 ·subst q2
  by_cases q : 0 ≤ x_Col ∧ x_Col < (zs.length : Int)
  ·obtain ⟨m,rfl⟩:=Int.eq_ofNat_of_zero_le q.1
   have hm : m < zs.length:=by omega
   obtain ⟨⟨⟨aT,aN,aS⟩,⟨bT,bN,bS⟩⟩,hsm⟩ : ∃ s,zs[m]? = some s:=⟨_,List.getElem?_eq_getElem hm⟩
   have hse:=(List.getElem?_eq_some_iff.1 hsm).2
   have p0:=q.1
   have p1:=q.2
   have p2 : (m : Int) ≤ (zs.length : Int) - 1:=by omega
   have p3 : ¬ (m : Int) < 0:=by omega
   have p4 : ¬ (zs.length : Int) ≤ (m : Int):=by omega
   have hr : mhF zs false ⟨2,(m : Int),x_Op,⟨x_V_Ty,x_V_N,x_V_S⟩,x_L⟩ = mh1F (oppF x_Op) ⟨⟨aT,aN,aS⟩,⟨bT,bN,bS⟩⟩ ⟨x_V_Ty,x_V_N,x_V_S⟩:=by simp [mhF,mhC_in hsm]
   refine Ud (J8 w1 p0 p1 p2 p3 p4 hm (J2 hsm hse)) ?_
   repeat intro hc
   simp [pf475,hr]
  ·have hr : mhF zs false ⟨2,x_Col,x_Op,⟨x_V_Ty,x_V_N,x_V_S⟩,x_L⟩ = !false:=by simp [mhF,mhC_out q]
   by_cases p0 : 0 ≤ x_Col
   ·have p1 : ¬ x_Col < (zs.length : Int):=fun e => q ⟨p0,e⟩
    have p2 : ¬ x_Col ≤ (zs.length : Int) - 1:=by omega
    have p3 : ¬ x_Col < 0:=by omega
    have p4 : (zs.length : Int) ≤ x_Col:=by omega
    refine Ud (J6 w1 p0 p1 p2 p3 p4) ?_
    repeat intro hc
    simp [pf475,hr]
   ·have p3 : x_Col < 0:=by omega
    refine Ud (J3 w1 p0 p3) ?_
    repeat intro hc
    simp [pf475,hr]
 by_cases q3 : x_Kind = 3
 ·subst q3
  have hr : mhF zs false ⟨3,x_Col,x_Op,⟨x_V_Ty,x_V_N,x_V_S⟩,x_L⟩ = mhAny zs false x_L:=by simp [mhF]
  rw [hr]
  refine Ud Oo ?_
  repeat intro hc
  refine wp_loopI (σ:=List XPred × List XPred) (fun s => [(1,AV.v k1 (D.sl 6 (zs.map XZone.e)),none),(2,AV.bx 2 0,some (Rt.bx [C.ro false (di 3),C.ro false (di x_Col),C.ro false (di x_Op),C.ro false (di x_V_Ty),C.ro false (di x_V_N),C.ro false (D.str x_V_S),C.ro k0 (D.sl 7 (x_L.map XPred.e))])),(5,AV.v false (di ((s.1.length : Nat) : Int)),none)]) (fun s => x_L = s.1 ++ s.2 ∧ mhAny zs false x_L = mhAny zs false s.2) (fun s => s.2.length) ([],x_L) (by simp) ⟨rfl,rfl⟩ ?_
  rintro ⟨pre,rest⟩ ⟨y1,y2⟩
  simp only at y1 y2
  have y3 : x_L.length = pre.length + rest.length:=by rw [y1,List.length_append]
  rcases rest with _ | ⟨⟨y_Kind,y_Col,y_Op,⟨y_V_Ty,y_V_N,y_V_S⟩,y_L⟩,rest⟩
  ·simp only [List.length_nil] at y3
   simp only [mhAny] at y2
   have c1 : ¬ (pre.length : Int) < (x_L.length : Int):=by omega
   unfold pl475_1
   refine Ud c1 ?_
   repeat intro hc
   simp [pf475,y2]
  ·simp only [List.length_cons] at y3
   simp only [mhAny] at y2
   have hg : x_L[pre.length]? = some ⟨y_Kind,y_Col,y_Op,⟨y_V_Ty,y_V_N,y_V_S⟩,y_L⟩:=by rw [y1]; simp
   obtain ⟨hlt,hge⟩:=List.getElem?_eq_some_iff.1 hg
   have ih:=fun k0 k1 => IH k0 k1 _ (List.mem_of_getElem? hg)
   simp only at ih
   have c1 : (pre.length : Int) < (x_L.length : Int):=by omega
   have hw:=Wi ((pre.length : Int) + 1)
   unfold pl475_1
   cases qy : mhF zs false ⟨y_Kind,y_Col,y_Op,⟨y_V_Ty,y_V_N,y_V_S⟩,y_L⟩ with
   | true =>
    rw [qy] at ih y2
    refine Ud (J6 c1 hw hg hlt hge ih) ?_
    repeat intro hc
    simp [pf475,y2]
   | false =>
    rw [qy] at ih y2
    refine Ud (J6 c1 hw hg hlt hge ih) ?_
    repeat intro hc
    exact ⟨(pre ++ [⟨y_Kind,y_Col,y_Op,⟨y_V_Ty,y_V_N,y_V_S⟩,y_L⟩],rest),(by simp),⟨by rw [y1]; simp,by rw [y2]; simp⟩,by simp⟩
 by_cases q4 : x_Kind = 4
 ·subst q4
  have hr : mhF zs false ⟨4,x_Col,x_Op,⟨x_V_Ty,x_V_N,x_V_S⟩,x_L⟩ = mhAll zs false x_L:=by simp [mhF]
  rw [hr]
  refine Ud Oo ?_
  repeat intro hc
  refine wp_loopI (σ:=List XPred × List XPred) (fun s => [(1,AV.v k1 (D.sl 6 (zs.map XZone.e)),none),(2,AV.bx 2 0,some (Rt.bx [C.ro false (di 4),C.ro false (di x_Col),C.ro false (di x_Op),C.ro false (di x_V_Ty),C.ro false (di x_V_N),C.ro false (D.str x_V_S),C.ro k0 (D.sl 7 (x_L.map XPred.e))])),(6,AV.v false (di ((s.1.length : Nat) : Int)),none)]) (fun s => x_L = s.1 ++ s.2 ∧ mhAll zs false x_L = mhAll zs false s.2) (fun s => s.2.length) ([],x_L) (by simp) ⟨rfl,rfl⟩ ?_
  rintro ⟨pre,rest⟩ ⟨y1,y2⟩
  simp only at y1 y2
  have y3 : x_L.length = pre.length + rest.length:=by rw [y1,List.length_append]
  rcases rest with _ | ⟨⟨y_Kind,y_Col,y_Op,⟨y_V_Ty,y_V_N,y_V_S⟩,y_L⟩,rest⟩
  ·simp only [List.length_nil] at y3
   simp only [mhAll] at y2
   have c1 : ¬ (pre.length : Int) < (x_L.length : Int):=by omega
   unfold pl475_0
   refine Ud c1 ?_
   repeat intro hc
   simp [pf475,y2]
  ·simp only [List.length_cons] at y3
   simp only [mhAll] at y2
   have hg : x_L[pre.length]? = some ⟨y_Kind,y_Col,y_Op,⟨y_V_Ty,y_V_N,y_V_S⟩,y_L⟩:=by rw [y1]; simp
   obtain ⟨hlt,hge⟩:=List.getElem?_eq_some_iff.1 hg
   have ih:=fun k0 k1 => IH k0 k1 _ (List.mem_of_getElem? hg)
   simp only at ih
   have c1 : (pre.length : Int) < (x_L.length : Int):=by omega
   have hw:=Wi ((pre.length : Int) + 1)
   unfold pl475_0
   cases qy : mhF zs false ⟨y_Kind,y_Col,y_Op,⟨y_V_Ty,y_V_N,y_V_S⟩,y_L⟩ with
   | false =>
    rw [qy] at ih y2
    refine Ud (J6 c1 hw hg hlt hge ih) ?_
    repeat intro hc
    simp [pf475,y2]
   | true =>
    rw [qy] at ih y2
    refine Ud (J6 c1 hw hg hlt hge ih) ?_
    repeat intro hc
    exact ⟨(pre ++ [⟨y_Kind,y_Col,y_Op,⟨y_V_Ty,y_V_N,y_V_S⟩,y_L⟩],rest),(by simp),⟨by rw [y1]; simp,by rw [y2]; simp⟩,by simp⟩
 by_cases q5 : x_Kind = 5
 ·subst q5
  rcases x_L with _ | ⟨⟨y_Kind,y_Col,y_Op,⟨y_V_Ty,y_V_N,y_V_S⟩,y_L⟩,rest⟩
  ·refine Ud Oo ?_
   repeat intro hc
   simp [pf475,mhF,mhNot]
  ·have io:=fun k0 k1 => hIO k0 k1 _ (List.mem_cons_self ..)
   simp only at io
   refine Ud io ?_
   repeat intro hc
   simp [pf475,mhF,mhNot]
 refine Ud (J5 q1 q2 q3 q4 q5) ?_
 repeat intro hc
 simp [pf475,mhF,q1,q2,q3,q4,q5]

def MhI (x : XPred) : Prop:=∀ (k0 k1 : Bool) (zs : List XZone),zs.length ≤ 1048576 → x.sm → Gw TT 447 [.st [.ro false (di x.Kind),.ro false (di x.Col),.ro false (di x.Op),.ro false (di x.V.Ty),.ro false (di x.V.N),.ro false (.str x.V.S),.ro k0 (.sl 7 (x.L.map XPred.e))],.one (.ro k1 (.sl 6 (zs.map XZone.e)))] = some (vb (mhF zs true x),[]) ∧ Gw TT 479 [.st [.ro false (di x.Kind),.ro false (di x.Col),.ro false (di x.Op),.ro false (di x.V.Ty),.ro false (di x.V.N),.ro false (.str x.V.S),.ro k0 (.sl 7 (x.L.map XPred.e))],.one (.ro k1 (.sl 6 (zs.map XZone.e)))] = some (vb (mhF zs false x),[])

theorem MhI_of (x : XPred) (IH : ∀ y ∈ x.L,MhI y) : MhI x:=by
 intro k0 k1 zs hz hx
 obtain ⟨x_Kind,x_Col,x_Op,⟨x_V_Ty,x_V_N,x_V_S⟩,x_L⟩:=x
 simp only [XPred.sm_eq,XVal.sm,and_assoc] at hx
 obtain ⟨_,hl,hs⟩:=hx
 exact ⟨Mh447_of k0 k1 zs _ _ _ _ _ _ _ hz hl (fun k0 k1 y hy => (IH y hy k0 k1 zs hz (XPred.sms_mem hs y hy)).1) (fun k0 k1 y hy => (IH y hy k0 k1 zs hz (XPred.sms_mem hs y hy)).2),
  Mh479_of k0 k1 zs _ _ _ _ _ _ _ hz hl (fun k0 k1 y hy => (IH y hy k0 k1 zs hz (XPred.sms_mem hs y hy)).2) (fun k0 k1 y hy => (IH y hy k0 k1 zs hz (XPred.sms_mem hs y hy)).1)⟩

theorem MhI_all (x : XPred) : MhI x:=MhI_of x fun y hy => MhI_all y
termination_by SizeOf.sizeOf x
decreasing_by
 have h1:=List.sizeOf_lt_of_mem hy
 have h2 : SizeOf.sizeOf x.L < SizeOf.sizeOf x:=by cases x; simp; omega
 omega

theorem t447 (k0 k1 : Bool) (zs : List XZone) (x_Kind x_Col x_Op x_V_Ty x_V_N : Int) (x_V_S : ByteArray) (x_L : List XPred) (hz : zs.length ≤ 1048576) (hv : x_V_S.size ≤ 1048576) (hl : x_L.length ≤ 1048576) (hs : XPred.sms x_L) : Gw TT 447 [.st [.ro false (di x_Kind),.ro false (di x_Col),.ro false (di x_Op),.ro false (di x_V_Ty),.ro false (di x_V_N),.ro false (.str x_V_S),.ro k0 (.sl 7 (x_L.map XPred.e))],.one (.ro k1 (.sl 6 (zs.map XZone.e)))] = some (vb (mhF zs true ⟨x_Kind,x_Col,x_Op,⟨x_V_Ty,x_V_N,x_V_S⟩,x_L⟩),[]) :=
 (MhI_all ⟨x_Kind,x_Col,x_Op,⟨x_V_Ty,x_V_N,x_V_S⟩,x_L⟩ k0 k1 zs hz (by simp only [XPred.sm_eq,XVal.sm,and_assoc]; exact ⟨hv,hl,hs⟩)).1

def MhS (x : XPred) : Prop:=∀ (k0 k1 : Bool) (zs : List XZone),zs.length ≤ 1048576 → x.sm → Gw TT 444 [.st [.ro false (di x.Kind),.ro false (di x.Col),.ro false (di x.Op),.ro false (di x.V.Ty),.ro false (di x.V.N),.ro false (.str x.V.S),.ro k0 (.sl 7 (x.L.map XPred.e))],.one (.ro k1 (.sl 6 (zs.map XZone.e)))] = some (vb (mhF zs true x),[]) ∧ Gw TT 475 [.st [.ro false (di x.Kind),.ro false (di x.Col),.ro false (di x.Op),.ro false (di x.V.Ty),.ro false (di x.V.N),.ro false (.str x.V.S),.ro k0 (.sl 7 (x.L.map XPred.e))],.one (.ro k1 (.sl 6 (zs.map XZone.e)))] = some (vb (mhF zs false x),[])

theorem MhS_of (x : XPred) (IH : ∀ y ∈ x.L,MhS y) : MhS x:=by
 intro k0 k1 zs hz hx
 obtain ⟨x_Kind,x_Col,x_Op,⟨x_V_Ty,x_V_N,x_V_S⟩,x_L⟩:=x
 simp only [XPred.sm_eq,XVal.sm,and_assoc] at hx
 obtain ⟨_,hl,hs⟩:=hx
 exact ⟨Mh444_of k0 k1 zs _ _ _ _ _ _ _ hz hl (fun k0 k1 y hy => (IH y hy k0 k1 zs hz (XPred.sms_mem hs y hy)).1) (fun k0 k1 y hy => (IH y hy k0 k1 zs hz (XPred.sms_mem hs y hy)).2),
  Mh475_of k0 k1 zs _ _ _ _ _ _ _ hz hl (fun k0 k1 y hy => (IH y hy k0 k1 zs hz (XPred.sms_mem hs y hy)).2) (fun k0 k1 y hy => (IH y hy k0 k1 zs hz (XPred.sms_mem hs y hy)).1)⟩

theorem MhS_all (x : XPred) : MhS x:=MhS_of x fun y hy => MhS_all y
termination_by SizeOf.sizeOf x
decreasing_by
 have h1:=List.sizeOf_lt_of_mem hy
 have h2 : SizeOf.sizeOf x.L < SizeOf.sizeOf x:=by cases x; simp; omega
 omega

theorem t444 (k0 k1 : Bool) (zs : List XZone) (x_Kind x_Col x_Op x_V_Ty x_V_N : Int) (x_V_S : ByteArray) (x_L : List XPred) (hz : zs.length ≤ 1048576) (hv : x_V_S.size ≤ 1048576) (hl : x_L.length ≤ 1048576) (hs : XPred.sms x_L) : Gw TT 444 [.st [.ro false (di x_Kind),.ro false (di x_Col),.ro false (di x_Op),.ro false (di x_V_Ty),.ro false (di x_V_N),.ro false (.str x_V_S),.ro k0 (.sl 7 (x_L.map XPred.e))],.one (.ro k1 (.sl 6 (zs.map XZone.e)))] = some (vb (mhF zs true ⟨x_Kind,x_Col,x_Op,⟨x_V_Ty,x_V_N,x_V_S⟩,x_L⟩),[]) :=
 (MhS_all ⟨x_Kind,x_Col,x_Op,⟨x_V_Ty,x_V_N,x_V_S⟩,x_L⟩ k0 k1 zs hz (by simp only [XPred.sm_eq,XVal.sm,and_assoc]; exact ⟨hv,hl,hs⟩)).1

def skipsF (cols : List Int) (B : List XBuf) (r : XRef) (p : XPred) : Bool:=decide (r.Kind = 2) && (thereF B r.Buf r.Gen r.Kind r.Many && !mhF (zonesF (grpF cols B r)) true p)
theorem grpF_len {cols : List Int} {B : List XBuf} {r : XRef} : (grpF cols B r).length ≤ 1048576:=by
 unfold grpF
 split
 ·split
  ·exact ggF_len cols _
  ·simp
 ·simp
theorem grpF_sms {cols : List Int} {B : List XBuf} {r : XRef} : XRow.sms (grpF cols B r):=fun x hx => by
 have:=grpF_small x hx
 simpa only [XRow.sm] using this
theorem zonesF_len {l : List XRow} (hs : XRow.sms l) : (zonesF l).length ≤ 1048576:=by
 rcases l with _ | ⟨r,t⟩
 ·simp [zonesF]
 ·have:=(hs r (by simp)).1
  simpa [zonesF] using this

theorem t422 (k0 k1 : Bool) (x_C_Cols : List Int) (x_C_Slots : Int) (x_C_Bufs : Int) (x_Time : Int) (x_T : Int) (x_E : Int) (x_Dd_Ver : Int) (x_Dd_L : List XRef) (x_B : List XBuf) (x_M : List Int) (x_X : List XDead) (x_P : List Int) (x_Tasks : List XTask) (x_Deeds : List XDeed) (r_Buf : Int) (r_Gen : Int) (r_Kind : Int) (r_First : Int) (r_Many : Int) (q_Kind : Int) (q_P_Kind : Int) (q_P_Col : Int) (q_P_Op : Int) (q_P_V_Ty : Int) (q_P_V_N : Int) (q_P_V_S : ByteArray) (q_P_L : List XPred) (q_Col : Int) (q_Out : List Int) (h : x_B.length ≤ 1048576) (hcl : x_C_Cols.length ≤ 1048576) (hG : ∀ b ∈ x_B,b.G.length ≤ 1048576 ∧ bytesOk b.G) (hv : q_P_V_S.size ≤ 1048576) (hl : q_P_L.length ≤ 1048576) (hs : XPred.sms q_P_L) : Gw TT 422 [.st [.ro k0 (.sl 1 (x_C_Cols.map ei)),.ro false (di x_C_Slots),.ro false (di x_C_Bufs),.ro false (di x_Time),.ro false (di x_T),.ro false (di x_E),.ro false (di x_Dd_Ver),.ro k0 (.sl 5 (x_Dd_L.map XRef.e)),.ro k0 (.sl 5 (x_B.map XBuf.e)),.ro k0 (.sl 1 (x_M.map ei)),.ro k0 (.sl 3 (x_X.map XDead.e)),.ro k0 (.sl 1 (x_P.map ei)),.ro k0 (.sl 25 (x_Tasks.map XTask.e)),.ro k0 (.sl 25 (x_Deeds.map XDeed.e))],.st [.ro false (di r_Buf),.ro false (di r_Gen),.ro false (di r_Kind),.ro false (di r_First),.ro false (di r_Many)],.st [.ro false (di q_Kind),.ro false (di q_P_Kind),.ro false (di q_P_Col),.ro false (di q_P_Op),.ro false (di q_P_V_Ty),.ro false (di q_P_V_N),.ro false (.str q_P_V_S),.ro k1 (.sl 7 (q_P_L.map XPred.e)),.ro false (di q_Col),.ro k1 (.sl 1 (q_Out.map ei))]] = some (vb (skipsF x_C_Cols x_B ⟨r_Buf,r_Gen,r_Kind,r_First,r_Many⟩ ⟨q_P_Kind,q_P_Col,q_P_Op,⟨q_P_V_Ty,q_P_V_N,q_P_V_S⟩,q_P_L⟩),[]):=by
 refine Ga pf422 pb422 ?_
 unfold pb422
 by_cases hk : r_Kind = 2
 ·subst hk
  cases ht : thereF x_B r_Buf r_Gen 2 r_Many with
  | false =>
   have hr : skipsF x_C_Cols x_B ⟨r_Buf,r_Gen,2,r_First,r_Many⟩ ⟨q_P_Kind,q_P_Col,q_P_Op,⟨q_P_V_Ty,q_P_V_N,q_P_V_S⟩,q_P_L⟩ = false:=by simp [skipsF,ht]
   refine Ud (J2 h ht) ?_
   simp [pf422,hr]
  | true =>
   have hgr:=fun k0 : Bool => t449 k0 x_C_Cols x_C_Slots x_C_Bufs x_Time x_T x_E x_Dd_Ver x_Dd_L x_B x_M x_X x_P x_Tasks x_Deeds r_Buf r_Gen 2 r_First r_Many h hcl hG
   obtain ⟨rows,hrows⟩ : ∃ l,l = grpF x_C_Cols x_B ⟨r_Buf,r_Gen,2,r_First,r_Many⟩:=⟨_,rfl⟩
   have hrl : rows.length ≤ 1048576:=by rw [hrows]; exact grpF_len
   have hrs : XRow.sms rows:=by rw [hrows]; exact grpF_sms
   have hzl:=zonesF_len hrs
   have hr : skipsF x_C_Cols x_B ⟨r_Buf,r_Gen,2,r_First,r_Many⟩ ⟨q_P_Kind,q_P_Col,q_P_Op,⟨q_P_V_Ty,q_P_V_N,q_P_V_S⟩,q_P_L⟩ = !mhF (zonesF rows) true ⟨q_P_Kind,q_P_Col,q_P_Op,⟨q_P_V_Ty,q_P_V_N,q_P_V_S⟩,q_P_L⟩:=by simp [skipsF,ht,hrows]
   rw [← hrows] at hgr
   have hzo:=fun k0 : Bool => t448 k0 rows hrl hrs
   have hmh:=fun k0 k1 : Bool => t447 k0 k1 (zonesF rows) q_P_Kind q_P_Col q_P_Op q_P_V_Ty q_P_V_N q_P_V_S q_P_L hzl hv hl hs
   refine Ud (J5 h ht hgr hzo hmh) ?_
   simp [pf422,hr]
 ·have hr : skipsF x_C_Cols x_B ⟨r_Buf,r_Gen,r_Kind,r_First,r_Many⟩ ⟨q_P_Kind,q_P_Col,q_P_Op,⟨q_P_V_Ty,q_P_V_N,q_P_V_S⟩,q_P_L⟩ = false:=by simp [skipsF,hk]
  refine Ud (J2 h hk) ?_
  simp [pf422,hr]

theorem t421 (k0 k1 : Bool) (x_C_Cols : List Int) (x_C_Slots : Int) (x_C_Bufs : Int) (x_Time : Int) (x_T : Int) (x_E : Int) (x_Dd_Ver : Int) (x_Dd_L : List XRef) (x_B : List XBuf) (x_M : List Int) (x_X : List XDead) (x_P : List Int) (x_Tasks : List XTask) (x_Deeds : List XDeed) (r_Buf : Int) (r_Gen : Int) (r_Kind : Int) (r_First : Int) (r_Many : Int) (q_Kind : Int) (q_P_Kind : Int) (q_P_Col : Int) (q_P_Op : Int) (q_P_V_Ty : Int) (q_P_V_N : Int) (q_P_V_S : ByteArray) (q_P_L : List XPred) (q_Col : Int) (q_Out : List Int) (h : x_B.length ≤ 1048576) (hcl : x_C_Cols.length ≤ 1048576) (hG : ∀ b ∈ x_B,b.G.length ≤ 1048576 ∧ bytesOk b.G) (hv : q_P_V_S.size ≤ 1048576) (hl : q_P_L.length ≤ 1048576) (hs : XPred.sms q_P_L) : Gw TT 421 [.st [.ro k0 (.sl 1 (x_C_Cols.map ei)),.ro false (di x_C_Slots),.ro false (di x_C_Bufs),.ro false (di x_Time),.ro false (di x_T),.ro false (di x_E),.ro false (di x_Dd_Ver),.ro k0 (.sl 5 (x_Dd_L.map XRef.e)),.ro k0 (.sl 5 (x_B.map XBuf.e)),.ro k0 (.sl 1 (x_M.map ei)),.ro k0 (.sl 3 (x_X.map XDead.e)),.ro k0 (.sl 1 (x_P.map ei)),.ro k0 (.sl 25 (x_Tasks.map XTask.e)),.ro k0 (.sl 25 (x_Deeds.map XDeed.e))],.st [.ro false (di r_Buf),.ro false (di r_Gen),.ro false (di r_Kind),.ro false (di r_First),.ro false (di r_Many)],.st [.ro false (di q_Kind),.ro false (di q_P_Kind),.ro false (di q_P_Col),.ro false (di q_P_Op),.ro false (di q_P_V_Ty),.ro false (di q_P_V_N),.ro false (.str q_P_V_S),.ro k1 (.sl 7 (q_P_L.map XPred.e)),.ro false (di q_Col),.ro k1 (.sl 1 (q_Out.map ei))]] = some (vb (skipsF x_C_Cols x_B ⟨r_Buf,r_Gen,r_Kind,r_First,r_Many⟩ ⟨q_P_Kind,q_P_Col,q_P_Op,⟨q_P_V_Ty,q_P_V_N,q_P_V_S⟩,q_P_L⟩),[]):=by
 refine Ga pf421 pb421 ?_
 unfold pb421
 by_cases hk : r_Kind = 2
 ·subst hk
  cases ht : thereF x_B r_Buf r_Gen 2 r_Many with
  | false =>
   have hr : skipsF x_C_Cols x_B ⟨r_Buf,r_Gen,2,r_First,r_Many⟩ ⟨q_P_Kind,q_P_Col,q_P_Op,⟨q_P_V_Ty,q_P_V_N,q_P_V_S⟩,q_P_L⟩ = false:=by simp [skipsF,ht]
   refine Ud (J2 h ht) ?_
   simp [pf421,hr]
  | true =>
   obtain ⟨⟨bg,bk,⟨bn,bL⟩,bG⟩,hb,hb0,hb1,hbm⟩:=thereF_get ht
   obtain ⟨hG1,hG2⟩:=hG _ hbm
   simp only at hG1 hG2
   have hgr:=fun k0 : Bool => t446 k0 x_C_Cols x_C_Slots x_C_Bufs x_Time x_T x_E x_Dd_Ver x_Dd_L x_B x_M x_X x_P x_Tasks x_Deeds r_Buf r_Gen 2 r_First r_Many bg bk bn bL bG hb hb0 hb1 hcl hG1 hG2
   have hge : (ggF x_C_Cols bG).getD [] = grpF x_C_Cols x_B ⟨r_Buf,r_Gen,2,r_First,r_Many⟩:=by unfold grpF; rw [if_pos ⟨rfl,ht⟩]; simp only; rw [hb]
   rw [hge] at hgr
   obtain ⟨rows,hrows⟩ : ∃ l,l = grpF x_C_Cols x_B ⟨r_Buf,r_Gen,2,r_First,r_Many⟩:=⟨_,rfl⟩
   have hrl : rows.length ≤ 1048576:=by rw [hrows]; exact grpF_len
   have hrs : XRow.sms rows:=by rw [hrows]; exact grpF_sms
   have hzl:=zonesF_len hrs
   have hr : skipsF x_C_Cols x_B ⟨r_Buf,r_Gen,2,r_First,r_Many⟩ ⟨q_P_Kind,q_P_Col,q_P_Op,⟨q_P_V_Ty,q_P_V_N,q_P_V_S⟩,q_P_L⟩ = !mhF (zonesF rows) true ⟨q_P_Kind,q_P_Col,q_P_Op,⟨q_P_V_Ty,q_P_V_N,q_P_V_S⟩,q_P_L⟩:=by simp [skipsF,ht,hrows]
   rw [← hrows] at hgr
   have hzo:=fun k0 : Bool => t445 k0 rows hrl hrs
   have hmh:=fun k0 k1 : Bool => t444 k0 k1 (zonesF rows) q_P_Kind q_P_Col q_P_Op q_P_V_Ty q_P_V_N q_P_V_S q_P_L hzl hv hl hs
   refine Ud (J5 h ht hgr hzo hmh) ?_
   simp [pf421,hr]
 ·have hr : skipsF x_C_Cols x_B ⟨r_Buf,r_Gen,r_Kind,r_First,r_Many⟩ ⟨q_P_Kind,q_P_Col,q_P_Op,⟨q_P_V_Ty,q_P_V_N,q_P_V_S⟩,q_P_L⟩ = false:=by simp [skipsF,hk]
  refine Ud (J2 h hk) ?_
  simp [pf421,hr]

theorem t412 (aW_C_Cols : List Int) (aW_C_Slots : Int) (aW_C_Bufs : Int) (aW_Time : Int) (aW_T : Int) (aW_E : Int) (aW_Dd_Ver : Int) (aW_Dd_L : List XRef) (aW_B : List XBuf) (aW_M : List Int) (aW_X : List XDead) (aW_P : List Int) (aW_Tasks : List XTask) (aW_Deeds : List XDeed) (aR_Buf : Int) (aR_Gen : Int) (aR_Kind : Int) (aR_First : Int) (aR_Many : Int) (aQ_Kind : Int) (aQ_P_Kind : Int) (aQ_P_Col : Int) (aQ_P_Op : Int) (aQ_P_V_Ty : Int) (aQ_P_V_N : Int) (aQ_P_V_S : ByteArray) (aQ_P_L : List XPred) (aQ_Col : Int) (aQ_Out : List Int) (hok_aW_C_Cols : aW_C_Cols.length ≤ 9223372036854775807) (hok_aW_Dd_L : aW_Dd_L.length ≤ 9223372036854775807) (hok_aW_B : aW_B.length ≤ 9223372036854775807) (hoks_aW_B : XBuf.oks aW_B) (hok_aW_M : aW_M.length ≤ 9223372036854775807) (hok_aW_X : aW_X.length ≤ 9223372036854775807) (hok_aW_P : aW_P.length ≤ 9223372036854775807) (hok_aW_Tasks : aW_Tasks.length ≤ 9223372036854775807) (hoks_aW_Tasks : XTask.oks aW_Tasks) (hok_aW_Deeds : aW_Deeds.length ≤ 9223372036854775807) (hoks_aW_Deeds : XDeed.oks aW_Deeds) (hok_aQ_P_V_S : aQ_P_V_S.size ≤ 9223372036854775807) (hok_aQ_P_L : aQ_P_L.length ≤ 9223372036854775807) (hoks_aQ_P_L : XPred.oks aQ_P_L) (hok_aQ_Out : aQ_Out.length ≤ 9223372036854775807) (hbx : ∀ b ∈ aW_B,bytesOk b.G) : Gw TT 412 [.st [.ro false (.sl 1 (aW_C_Cols.map ei)),.ro false (di aW_C_Slots),.ro false (di aW_C_Bufs),.ro false (di aW_Time),.ro false (di aW_T),.ro false (di aW_E),.ro false (di aW_Dd_Ver),.ro false (.sl 5 (aW_Dd_L.map XRef.e)),.ro false (.sl 5 (aW_B.map XBuf.e)),.ro false (.sl 1 (aW_M.map ei)),.ro false (.sl 3 (aW_X.map XDead.e)),.ro false (.sl 1 (aW_P.map ei)),.ro false (.sl 25 (aW_Tasks.map XTask.e)),.ro false (.sl 25 (aW_Deeds.map XDeed.e))],.st [.ro false (di aR_Buf),.ro false (di aR_Gen),.ro false (di aR_Kind),.ro false (di aR_First),.ro false (di aR_Many)],.st [.ro false (di aQ_Kind),.ro false (di aQ_P_Kind),.ro false (di aQ_P_Col),.ro false (di aQ_P_Op),.ro false (di aQ_P_V_Ty),.ro false (di aQ_P_V_N),.ro false (.str aQ_P_V_S),.ro false (.sl 7 (aQ_P_L.map XPred.e)),.ro false (di aQ_Col),.ro false (.sl 1 (aQ_Out.map ei))]] = some (vb true,[]):=by
 refine Ga pf412 pb412 ?_
 unfold pb412
 obtain ⟨n1,g1,a1,b1,s1⟩:=t233 false aW_C_Cols aW_C_Slots aW_C_Bufs aW_Time aW_T aW_E aW_Dd_Ver aW_Dd_L aW_B aW_M aW_X aW_P aW_Tasks aW_Deeds 1048576 (by omega) (by omega) hok_aW_C_Cols hok_aW_Dd_L hok_aW_B hoks_aW_B hok_aW_M hok_aW_X hok_aW_P hok_aW_Tasks hoks_aW_Tasks hok_aW_Deeds hoks_aW_Deeds
 refine Ud g1 ?_ ?_
 all_goals repeat intro hc
 ·simp [pf412]
 have q1:=s1 (by omega)
 obtain ⟨hsm_aW_C_Cols,hsm_aW_Dd_L,hsm_aW_B,hsms_aW_B,hsm_aW_M,hsm_aW_X,hsm_aW_P,hsm_aW_Tasks,hsms_aW_Tasks,hsm_aW_Deeds,hsms_aW_Deeds⟩:=q1
 obtain ⟨n2,g2,a2,b2,s2⟩:=t222 false aQ_Kind aQ_P_Kind aQ_P_Col aQ_P_Op aQ_P_V_Ty aQ_P_V_N aQ_P_V_S aQ_P_L aQ_Col aQ_Out n1 (by omega) (by omega) hok_aQ_P_V_S hok_aQ_P_L hoks_aQ_P_L hok_aQ_Out
 refine Ud (J8 g2 hsm_aW_C_Cols hsm_aW_Dd_L hsm_aW_B hsms_aW_B hsm_aW_M hsm_aW_X (J5 hsm_aW_P hsm_aW_Tasks hsms_aW_Tasks hsm_aW_Deeds hsms_aW_Deeds)) ?_ ?_
 all_goals repeat intro hc
 ·simp [pf412]
 have q2:=s2 (by omega)
 obtain ⟨hsm_aQ_P_V_S,hsm_aQ_P_L,hsms_aQ_P_L,hsm_aQ_Out⟩:=q2
 have hG : ∀ b ∈ aW_B,b.G.length ≤ 1048576 ∧ bytesOk b.G:=fun b hb => ⟨(hsms_aW_B b hb).2,hbx b hb⟩
 have u1:=fun k0 k1 : Bool => t421 k0 k1 aW_C_Cols aW_C_Slots aW_C_Bufs aW_Time aW_T aW_E aW_Dd_Ver aW_Dd_L aW_B aW_M aW_X aW_P aW_Tasks aW_Deeds aR_Buf aR_Gen aR_Kind aR_First aR_Many aQ_Kind aQ_P_Kind aQ_P_Col aQ_P_Op aQ_P_V_Ty aQ_P_V_N aQ_P_V_S aQ_P_L aQ_Col aQ_Out hsm_aW_B hsm_aW_C_Cols hG hsm_aQ_P_V_S hsm_aQ_P_L hsms_aQ_P_L
 have u2:=fun k0 k1 : Bool => t422 k0 k1 aW_C_Cols aW_C_Slots aW_C_Bufs aW_Time aW_T aW_E aW_Dd_Ver aW_Dd_L aW_B aW_M aW_X aW_P aW_Tasks aW_Deeds aR_Buf aR_Gen aR_Kind aR_First aR_Many aQ_Kind aQ_P_Kind aQ_P_Col aQ_P_Op aQ_P_V_Ty aQ_P_V_N aQ_P_V_S aQ_P_L aQ_Col aQ_Out hsm_aW_B hsm_aW_C_Cols hG hsm_aQ_P_V_S hsm_aQ_P_L hsms_aQ_P_L
 refine Ud (J8 hsm_aW_C_Cols hsm_aW_Dd_L hsm_aW_B hsms_aW_B hsm_aW_M hsm_aW_X hsm_aW_P (J8 hsm_aW_Tasks hsms_aW_Tasks hsm_aW_Deeds hsms_aW_Deeds hsm_aQ_P_V_S hsm_aQ_P_L hsms_aQ_P_L (J3 hsm_aQ_Out u1 u2))) ?_
 repeat intro hc
 simp [pf412]

end Go.Proofs.YtmlinnkaccgcgaaGreat.OM
