/- The law FnExactStampEnd returns true for every input, and each argument reads behind the call as it read before. No condition. -/
import Derived.Test.YtohlfelngklcfaaGreatXSLm1
import Derived.Test.YtohlfelngklcfaaGreatH3
import Derived.Test.YtohlfelngklcfaaGreatRows
import Derived.KernelRfl
import Derived.WalkKit
import Derived.ProofKit
import Derived.OpenShut
set_option linter.all false
namespace Go.Proofs.YtohlfelngklcfaaGreat.fnExactStampEnd
open Go.ChangeShapes Go.WideShapes Go.ChangeAt Go.RowKit Go.Proofs.YtohlfelngklcfaaGreat.OM
set_option maxRecDepth 100000
set_option maxHeartbeats 4000000
theorem TY (w:World) (b bt ot nt ct k od bd nd cd:Nat) (h:Nat) (r8:w.cell? ⟨b,12,none⟩=some (.slice (some ⟨bt,ot,none⟩) nt ct)) (hk:k<nt)
 (hh:w.cell? ⟨bt,ot+k*25+2,none⟩=some (.int .i64 h)) (uZ:w.cell? ⟨b,13,none⟩=some (.slice (some ⟨bd,od,none⟩) nd cd)) (hn:h<nd):
 Calls Tryz.prog 162 #[.pointer (some ⟨b,0,none⟩),.int .i64 k] w fun e w'=>e=.returned (.pointer (some ⟨bd,od+h*25,none⟩))∧w'=w:=by
 go_enter Tryz.func162,Tryz.ntmps162
 go_wp2
 go_ret
 exact ⟨rfl,rfl⟩
theorem TZ (w:World) (b bt ot nt ct k nd cd:Nat) (ad:Option Addr) (h:Int) (r8:w.cell? ⟨b,12,none⟩=some (.slice (some ⟨bt,ot,none⟩) nt ct)) (hk:k<nt)
 (hh:w.cell? ⟨bt,ot+k*25+2,none⟩=some (.int .i64 h)) (uZ:w.cell? ⟨b,13,none⟩=some (.slice ad nd cd)) (hn:¬(0≤h∧h<nd)):
 Calls Tryz.prog 162 #[.pointer (some ⟨b,0,none⟩),.int .i64 k] w fun e w'=>e=.returned (.pointer (some ⟨w.heap.size,0,none⟩))∧w'=w.alloc (.cells oU 104):=by
 by_cases h0:h<0
 ·go_enter Tryz.func162,Tryz.ntmps162
  go_wp2
  go_ret
  exact ⟨rfl,rfl⟩
 ·have h1:(nd:Int)≤h:=by omega
  go_enter Tryz.func162,Tryz.ntmps162
  go_wp2
  go_ret
  exact ⟨rfl,rfl⟩
theorem T0 (f:Nat):uF Tryz.prog (jb f)∨f≠503:=by
 by_cases e:f=503
 ·subst e;left;rw [show jb 503=162 from by kernel_rfl];intro w b vals E bt ot nt ct k h ad nd cd hb r8 hk hh uZ OG;have tP:=(jP (o:=12) hb).trans r8;have tQ:=(jP (o:=13) hb).trans uZ;by_cases hc:0≤h∧h<nd
  ·obtain ⟨bd,od,rfl⟩:=OG hc.1 hc.2;have hn:((h.toNat:Nat):Int)=h:=Int.toNat_of_nonneg hc.1;refine (TY w b bt ot nt ct k od bd nd cd h.toNat tP hk (by rw [hn];exact hh) tQ (by omega)).mono fun e w' he=>?_
   obtain ⟨rfl,rfl⟩:=he;exact ⟨_,rfl,ee.refl _,Nat.le_refl _,fun _ _=>rfl,by rw [if_pos hc];rfl⟩
  ·refine (TZ w b bt ot nt ct k nd cd ad h tP hk hh tQ hc).mono fun e w' he=>?_
   obtain ⟨rfl,rfl⟩:=he
   have h1:∀b,b<w.heap.size→(w.alloc (.cells oU 104)).heap[b]?=w.heap[b]?:=fun b hb=>by
    simp only [World.alloc,Array.getElem?_push];rw [if_neg (by omega)]
   have h2:(w.alloc (.cells oU 104)).heap[w.heap.size]?=some (.cells oU 104):=by
    show (w.heap.push (.cells oU 104))[w.heap.size]?=_;simp
   have h3:(w.alloc (.cells oU 104)).heap.size=w.heap.size+1:=by
    show (w.heap.push (.cells oU 104)).size=_;simp
   refine ⟨_,rfl,ee.of (b:=w.heap.size) rfl rfl rfl (Nat.le_refl _) (fun b' hb=>?_) (.inl (by simp)) ⟨_,_,h2⟩,by omega,h1,by rw [if_neg hc];exact ⟨_,_,Nat.le_refl _,rfl,h2⟩⟩;rcases Nat.lt_or_ge b' w.heap.size with h|h
   ·exact h1 b' h
   ·rw [Array.getElem?_eq_none (by omega),Array.getElem?_eq_none (by omega)]
 ·exact .inr e
theorem Nz:Mw.all (fun p=>rQ Tryz.prog jb (jb p.1) p.2)=true:=by kernel_rfl
theorem L5 (f:Nat) (xs:List V) (r:V) (us:List (Nat×Nat×C)) (h:Gw TT f xs=some (r,us)):OK Tryz.prog (jb f) xs r us:=by
 refine MQ rfl (by kernel_rfl) T0 (fun f F hF=>?_) f xs r us h;exact List.all_eq_true.1 Nz (f,F) (SC hF)
theorem yV {ds:List D} (h:ck Tryz.prog 3 ds):∃n:Int,ds=ei n∧(-9223372036854775808≤n∧n≤9223372036854775807):=by
 obtain ⟨n,rfl,w⟩:=h.cC (by kernel_rfl:Tryz.prog.underlying 3=some (.int .i64));exact ⟨n,rfl,wf_i64 w⟩
theorem OT {ds:List D} (h:ck Tryz.prog 24 ds):∃x:ij,ds=x.e∧x.ok:=by
 obtain ⟨hl,hf⟩:=h.fields (by kernel_rfl:fieldsOf Tryz.prog 24=some [(22,0,1),(3,1,1),(3,2,1)]) (by kernel_rfl:Tryz.prog.cellsOf 24=3)
 match ds,hl with
 |[d0,d1,d2],_=>
  obtain ⟨mh,e0,m0,q0⟩:=(hf (22,0,1) (by simp)).gV (by kernel_rfl:Tryz.prog.underlying 22=some (.slice 3));rw [show Tryz.prog.cellsOf 3=1 from by kernel_rfl] at e0;simp at e0;subst e0;obtain ⟨v0,rfl,l0,k0⟩:=hU (fun y hy=>yV (q0 y hy));obtain ⟨v1,e1,w1⟩:=(hf (3,1,1) (by simp)).cC (by kernel_rfl:Tryz.prog.underlying 3=some (.int .i64));simp at e1;subst e1;obtain ⟨v2,e2,w2⟩:=(hf (3,2,1) (by simp)).cC (by kernel_rfl:Tryz.prog.underlying 3=some (.int .i64));simp at e2;subst e2;exact ⟨⟨v0,v1,v2⟩,by simp,by simp only [ij.ok];exact ⟨Nat.le_trans (Nat.le_of_eq l0) m0,k0,wf_i64 w1,wf_i64 w2⟩⟩
theorem KG {ds:List D} (h:ck Tryz.prog 233 ds):∃x:ay,ds=x.e∧x.ok:=by
 obtain ⟨hl,hf⟩:=h.fields (by kernel_rfl:fieldsOf Tryz.prog 233=some [(3,0,1),(3,1,1),(3,2,1),(3,3,1),(3,4,1)]) (by kernel_rfl:Tryz.prog.cellsOf 233=5)
 match ds,hl with
 |[d0,d1,d2,d3,d4],_=>
  obtain ⟨v0,e0,w0⟩:=(hf (3,0,1) (by simp)).cC (by kernel_rfl:Tryz.prog.underlying 3=some (.int .i64));simp at e0;subst e0;obtain ⟨v1,e1,w1⟩:=(hf (3,1,1) (by simp)).cC (by kernel_rfl:Tryz.prog.underlying 3=some (.int .i64));simp at e1;subst e1;obtain ⟨v2,e2,w2⟩:=(hf (3,2,1) (by simp)).cC (by kernel_rfl:Tryz.prog.underlying 3=some (.int .i64));simp at e2;subst e2;obtain ⟨v3,e3,w3⟩:=(hf (3,3,1) (by simp)).cC (by kernel_rfl:Tryz.prog.underlying 3=some (.int .i64));simp at e3;subst e3;obtain ⟨v4,e4,w4⟩:=(hf (3,4,1) (by simp)).cC (by kernel_rfl:Tryz.prog.underlying 3=some (.int .i64));simp at e4;subst e4;exact ⟨⟨v0,v1,v2,v3,v4⟩,by simp,by simp only [ay.ok];exact ⟨wf_i64 w0,wf_i64 w1,wf_i64 w2,wf_i64 w3,wf_i64 w4⟩⟩
theorem OU {ds:List D} (h:ck Tryz.prog 27 ds):∃x:ik,ds=x.e∧x.ok:=by
 obtain ⟨hl,hf⟩:=h.fields (by kernel_rfl:fieldsOf Tryz.prog 27=some [(3,0,1),(25,1,1)]) (by kernel_rfl:Tryz.prog.cellsOf 27=2)
 match ds,hl with
 |[d0,d1],_=>
  obtain ⟨v0,e0,w0⟩:=(hf (3,0,1) (by simp)).cC (by kernel_rfl:Tryz.prog.underlying 3=some (.int .i64));simp at e0;subst e0;obtain ⟨uW,e1,m1,q1⟩:=(hf (25,1,1) (by simp)).gV (by kernel_rfl:Tryz.prog.underlying 25=some (.slice 233));rw [show Tryz.prog.cellsOf 233=5 from by kernel_rfl] at e1;simp at e1;subst e1;obtain ⟨v1,rfl,l1,k1⟩:=hU (fun y hy=>KG (q1 y hy));exact ⟨⟨v0,v1⟩,by simp,by simp only [ik.ok];exact ⟨wf_i64 w0,Nat.le_trans (Nat.le_of_eq l1) m1,k1⟩⟩
theorem uc {ds:List D} (h:ck Tryz.prog 145 ds):∃x:af,ds=x.e∧x.ok:=by
 obtain ⟨hl,hf⟩:=h.fields (by kernel_rfl:fieldsOf Tryz.prog 145=some [(3,0,1),(3,1,1),(9,2,1)]) (by kernel_rfl:Tryz.prog.cellsOf 145=3)
 match ds,hl with
 |[d0,d1,d2],_=>
  obtain ⟨v0,e0,w0⟩:=(hf (3,0,1) (by simp)).cC (by kernel_rfl:Tryz.prog.underlying 3=some (.int .i64));simp at e0;subst e0;obtain ⟨v1,e1,w1⟩:=(hf (3,1,1) (by simp)).cC (by kernel_rfl:Tryz.prog.underlying 3=some (.int .i64));simp at e1;subst e1;obtain ⟨v2,e2,w2⟩:=(hf (9,2,1) (by simp)).Mi (by kernel_rfl:Tryz.prog.underlying 9=some .string);simp at e2;subst e2;exact ⟨⟨v0,v1,v2⟩,by simp,by simp only [af.ok];exact ⟨wf_i64 w0,wf_i64 w1,w2⟩⟩
theorem OV {ds:List D} (h:ck Tryz.prog 307 ds):∃x:aC,ds=x.e∧x.ok:=by
 obtain ⟨hl,hf⟩:=h.fields (by kernel_rfl:fieldsOf Tryz.prog 307=some [(3,0,1),(144,1,1)]) (by kernel_rfl:Tryz.prog.cellsOf 307=2)
 match ds,hl with
 |[d0,d1],_=>
  obtain ⟨v0,e0,w0⟩:=(hf (3,0,1) (by simp)).cC (by kernel_rfl:Tryz.prog.underlying 3=some (.int .i64));simp at e0;subst e0;obtain ⟨uW,e1,m1,q1⟩:=(hf (144,1,1) (by simp)).gV (by kernel_rfl:Tryz.prog.underlying 144=some (.slice 145));rw [show Tryz.prog.cellsOf 145=3 from by kernel_rfl] at e1;simp at e1;subst e1;obtain ⟨v1,rfl,l1,k1⟩:=hU (fun y hy=>uc (q1 y hy));exact ⟨⟨v0,v1⟩,by simp,by simp only [aC.ok];exact ⟨wf_i64 w0,Nat.le_trans (Nat.le_of_eq l1) m1,k1⟩⟩
theorem OJ {ds:List D} (h:ck Tryz.prog 140 ds):∃x:fm,ds=x.e∧x.ok:=by
 obtain ⟨hl,hf⟩:=h.fields (by kernel_rfl:fieldsOf Tryz.prog 140=some [(3,0,1),(138,1,1)]) (by kernel_rfl:Tryz.prog.cellsOf 140=2)
 match ds,hl with
 |[d0,d1],_=>
  obtain ⟨v0,e0,w0⟩:=(hf (3,0,1) (by simp)).cC (by kernel_rfl:Tryz.prog.underlying 3=some (.int .i64));simp at e0;subst e0;obtain ⟨uW,e1,m1,q1⟩:=(hf (138,1,1) (by simp)).gV (by kernel_rfl:Tryz.prog.underlying 138=some (.slice 307));rw [show Tryz.prog.cellsOf 307=2 from by kernel_rfl] at e1;simp at e1;subst e1;obtain ⟨v1,rfl,l1,k1⟩:=hU (fun y hy=>OV (q1 y hy));exact ⟨⟨v0,v1⟩,by simp,by simp only [fm.ok];exact ⟨wf_i64 w0,Nat.le_trans (Nat.le_of_eq l1) m1,k1⟩⟩
theorem OY {ds:List D} (h:ck Tryz.prog 5 ds):∃n:Int,ds=eb n∧(0≤n∧n≤255):=by
 obtain ⟨n,rfl,w⟩:=h.cC (by kernel_rfl:Tryz.prog.underlying 5=some (.int .u8));exact ⟨n,rfl,wf_u8 w⟩
theorem OL {ds:List D} (h:ck Tryz.prog 142 ds):∃x:ao,ds=x.e∧x.ok:=by
 obtain ⟨hl,hf⟩:=h.fields (by kernel_rfl:fieldsOf Tryz.prog 142=some [(3,0,1),(3,1,1),(140,2,2),(53,4,1)]) (by kernel_rfl:Tryz.prog.cellsOf 142=5)
 match ds,hl with
 |[d0,d1,d2,d3,d4],_=>
  obtain ⟨v0,e0,w0⟩:=(hf (3,0,1) (by simp)).cC (by kernel_rfl:Tryz.prog.underlying 3=some (.int .i64));simp at e0;subst e0;obtain ⟨v1,e1,w1⟩:=(hf (3,1,1) (by simp)).cC (by kernel_rfl:Tryz.prog.underlying 3=some (.int .i64));simp at e1;subst e1;obtain ⟨y2,e2,k2⟩:=OJ (hf (140,2,2) (by simp));obtain ⟨VL,VK⟩:=y2;simp at e2;obtain ⟨rfl,rfl⟩:=e2;obtain ⟨JY,e3,m3,q3⟩:=(hf (53,4,1) (by simp)).gV (by kernel_rfl:Tryz.prog.underlying 53=some (.slice 5));rw [show Tryz.prog.cellsOf 5=1 from by kernel_rfl] at e3;simp at e3;subst e3;obtain ⟨v3,rfl,l3,k3⟩:=hU (fun y hy=>OY (q3 y hy));exact ⟨⟨v0,v1,⟨VL,VK⟩,v3⟩,by simp,by simp only [ao.ok];exact ⟨wf_i64 w0,wf_i64 w1,k2,Nat.le_trans (Nat.le_of_eq l3) m3,k3⟩⟩
theorem OS {ds:List D} (h:ck Tryz.prog 183 ds):∃x:aJ,ds=x.e∧x.ok:=by
 obtain ⟨hl,hf⟩:=h.fields (by kernel_rfl:fieldsOf Tryz.prog 183=some [(3,0,1),(3,1,1),(3,2,1)]) (by kernel_rfl:Tryz.prog.cellsOf 183=3)
 match ds,hl with
 |[d0,d1,d2],_=>
  obtain ⟨v0,e0,w0⟩:=(hf (3,0,1) (by simp)).cC (by kernel_rfl:Tryz.prog.underlying 3=some (.int .i64));simp at e0;subst e0;obtain ⟨v1,e1,w1⟩:=(hf (3,1,1) (by simp)).cC (by kernel_rfl:Tryz.prog.underlying 3=some (.int .i64));simp at e1;subst e1;obtain ⟨v2,e2,w2⟩:=(hf (3,2,1) (by simp)).cC (by kernel_rfl:Tryz.prog.underlying 3=some (.int .i64));simp at e2;subst e2;exact ⟨⟨v0,v1,v2⟩,by simp,by simp only [aJ.ok];exact ⟨wf_i64 w0,wf_i64 w1,wf_i64 w2⟩⟩
theorem OO:∀(n:Nat) (ds:List D),SizeOf.sizeOf ds<n→ck Tryz.prog 148 ds→∃x:aa,ds=x.e∧x.ok:=by
 intro n;induction n with
 |zero=>intro ds h;omega
 |succ n ih=>
 intro ds dg h;obtain ⟨hl,hf⟩:=h.fields (by kernel_rfl:fieldsOf Tryz.prog 148=some [(3,0,1),(3,1,1),(3,2,1),(145,3,3),(146,6,1)]) (by kernel_rfl:Tryz.prog.cellsOf 148=7)
 match ds,hl with
 |[d0,d1,d2,d3,d4,d5,d6],_=>
  obtain ⟨v0,e0,w0⟩:=(hf (3,0,1) (by simp)).cC (by kernel_rfl:Tryz.prog.underlying 3=some (.int .i64));simp at e0;subst e0;obtain ⟨v1,e1,w1⟩:=(hf (3,1,1) (by simp)).cC (by kernel_rfl:Tryz.prog.underlying 3=some (.int .i64));simp at e1;subst e1;obtain ⟨v2,e2,w2⟩:=(hf (3,2,1) (by simp)).cC (by kernel_rfl:Tryz.prog.underlying 3=some (.int .i64));simp at e2;subst e2;obtain ⟨y3,e3,k3⟩:=uc (hf (145,3,3) (by simp));obtain ⟨IS,IP,IQ⟩:=y3;simp at e3;obtain ⟨rfl,rfl,rfl⟩:=e3;obtain ⟨WS,e4,m4,q4⟩:=(hf (146,6,1) (by simp)).gV (by kernel_rfl:Tryz.prog.underlying 146=some (.slice 148));rw [show Tryz.prog.cellsOf 148=7 from by kernel_rfl] at e4;simp at e4;subst e4;obtain ⟨v4,rfl,l4,k4⟩:=hU (fun y hy=>ih y (by have h1:=List.sizeOf_lt_of_mem hy;simp at dg;omega) (q4 y hy));exact ⟨⟨v0,v1,v2,⟨IS,IP,IQ⟩,v4⟩,by simp,by simp only [aa.ok_eq];exact ⟨wf_i64 w0,wf_i64 w1,wf_i64 w2,k3,Nat.le_trans (Nat.le_of_eq l4) m4,(by rw [aa.DM];exact k4)⟩⟩
theorem ON {ds:List D} (h:ck Tryz.prog 148 ds):∃x:aa,ds=x.e∧x.ok:=OO _ ds (Nat.lt_succ_self _) h
theorem KF {ds:List D} (h:ck Tryz.prog 150 ds):∃x:dC,ds=x.e∧x.ok:=by
 obtain ⟨hl,hf⟩:=h.fields (by kernel_rfl:fieldsOf Tryz.prog 150=some [(3,0,1),(148,1,7),(3,8,1),(22,9,1)]) (by kernel_rfl:Tryz.prog.cellsOf 150=10)
 match ds,hl with
 |[d0,d1,d2,d3,d4,d5,d6,d7,d8,d9],_=>
  obtain ⟨v0,e0,w0⟩:=(hf (3,0,1) (by simp)).cC (by kernel_rfl:Tryz.prog.underlying 3=some (.int .i64));simp at e0;subst e0;obtain ⟨y1,e1,k1⟩:=ON (hf (148,1,7) (by simp));obtain ⟨VE,VD,VG,⟨VJ,VH,VI⟩,VF⟩:=y1;simp at e1;obtain ⟨rfl,rfl,rfl,rfl,rfl,rfl,rfl⟩:=e1;obtain ⟨v2,e2,w2⟩:=(hf (3,8,1) (by simp)).cC (by kernel_rfl:Tryz.prog.underlying 3=some (.int .i64));simp at e2;subst e2;obtain ⟨JY,e3,m3,q3⟩:=(hf (22,9,1) (by simp)).gV (by kernel_rfl:Tryz.prog.underlying 22=some (.slice 3));rw [show Tryz.prog.cellsOf 3=1 from by kernel_rfl] at e3;simp at e3;subst e3;obtain ⟨v3,rfl,l3,k3⟩:=hU (fun y hy=>yV (q3 y hy));exact ⟨⟨v0,⟨VE,VD,VG,⟨VJ,VH,VI⟩,VF⟩,v2,v3⟩,by simp,by simp only [dC.ok];exact ⟨wf_i64 w0,k1,wf_i64 w2,Nat.le_trans (Nat.le_of_eq l3) m3,k3⟩⟩
theorem KH {ds:List D} (h:ck Tryz.prog 270 ds):∃x:ak,ds=x.e∧x.ok:=by
 obtain ⟨hl,hf⟩:=h.fields (by kernel_rfl:fieldsOf Tryz.prog 270=some [(3,0,1),(144,1,1)]) (by kernel_rfl:Tryz.prog.cellsOf 270=2)
 match ds,hl with
 |[d0,d1],_=>
  obtain ⟨v0,e0,w0⟩:=(hf (3,0,1) (by simp)).cC (by kernel_rfl:Tryz.prog.underlying 3=some (.int .i64));simp at e0;subst e0;obtain ⟨uW,e1,m1,q1⟩:=(hf (144,1,1) (by simp)).gV (by kernel_rfl:Tryz.prog.underlying 144=some (.slice 145));rw [show Tryz.prog.cellsOf 145=3 from by kernel_rfl] at e1;simp at e1;subst e1;obtain ⟨v1,rfl,l1,k1⟩:=hU (fun y hy=>uc (q1 y hy));exact ⟨⟨v0,v1⟩,by simp,by simp only [ak.ok];exact ⟨wf_i64 w0,Nat.le_trans (Nat.le_of_eq l1) m1,k1⟩⟩
theorem OP {ds:List D} (h:ck Tryz.prog 153 ds):∃x:au,ds=x.e∧x.ok:=by
 obtain ⟨hl,hf⟩:=h.fields (by kernel_rfl:fieldsOf Tryz.prog 153=some [(3,0,1),(3,1,1),(3,2,1),(144,3,1),(3,4,1),(150,5,10),(3,15,1),(3,16,1),(25,17,1),(3,18,1),(3,19,1),(3,20,1),(3,21,1),(3,22,1),(4,23,1),(151,24,1)]) (by kernel_rfl:Tryz.prog.cellsOf 153=25)
 match ds,hl with
 |[d0,d1,d2,d3,d4,d5,d6,d7,d8,d9,d10,d11,d12,d13,d14,d15,d16,d17,d18,d19,d20,d21,d22,d23,d24],_=>
  obtain ⟨v0,e0,w0⟩:=(hf (3,0,1) (by simp)).cC (by kernel_rfl:Tryz.prog.underlying 3=some (.int .i64));simp at e0;subst e0;obtain ⟨v1,e1,w1⟩:=(hf (3,1,1) (by simp)).cC (by kernel_rfl:Tryz.prog.underlying 3=some (.int .i64));simp at e1;subst e1;obtain ⟨v2,e2,w2⟩:=(hf (3,2,1) (by simp)).cC (by kernel_rfl:Tryz.prog.underlying 3=some (.int .i64));simp at e2;subst e2;obtain ⟨JY,e3,m3,q3⟩:=(hf (144,3,1) (by simp)).gV (by kernel_rfl:Tryz.prog.underlying 144=some (.slice 145));rw [show Tryz.prog.cellsOf 145=3 from by kernel_rfl] at e3;simp at e3;subst e3;obtain ⟨v3,rfl,l3,k3⟩:=hU (fun y hy=>uc (q3 y hy));obtain ⟨v4,e4,w4⟩:=(hf (3,4,1) (by simp)).cC (by kernel_rfl:Tryz.prog.underlying 3=some (.int .i64));simp at e4;subst e4;obtain ⟨y5,e5,k5⟩:=KF (hf (150,5,10) (by simp));obtain ⟨V0,⟨V4,V3,V6,⟨V9,V7,V8⟩,V5⟩,VY,V2⟩:=y5;simp at e5;obtain ⟨rfl,rfl,rfl,rfl,rfl,rfl,rfl,rfl,rfl,rfl⟩:=e5;obtain ⟨v6,e6,w6⟩:=(hf (3,15,1) (by simp)).cC (by kernel_rfl:Tryz.prog.underlying 3=some (.int .i64));simp at e6;subst e6;obtain ⟨v7,e7,w7⟩:=(hf (3,16,1) (by simp)).cC (by kernel_rfl:Tryz.prog.underlying 3=some (.int .i64));simp at e7;subst e7;obtain ⟨N3,e8,m8,q8⟩:=(hf (25,17,1) (by simp)).gV (by kernel_rfl:Tryz.prog.underlying 25=some (.slice 233));rw [show Tryz.prog.cellsOf 233=5 from by kernel_rfl] at e8;simp at e8;subst e8;obtain ⟨v8,rfl,l8,k8⟩:=hU (fun y hy=>KG (q8 y hy));obtain ⟨v9,e9,w9⟩:=(hf (3,18,1) (by simp)).cC (by kernel_rfl:Tryz.prog.underlying 3=some (.int .i64));simp at e9;subst e9;obtain ⟨v10,pn,iK⟩:=(hf (3,19,1) (by simp)).cC (by kernel_rfl:Tryz.prog.underlying 3=some (.int .i64));simp at pn;subst pn;obtain ⟨v11,JT,jI⟩:=(hf (3,20,1) (by simp)).cC (by kernel_rfl:Tryz.prog.underlying 3=some (.int .i64));simp at JT;subst JT;obtain ⟨v12,tV,jJ⟩:=(hf (3,21,1) (by simp)).cC (by kernel_rfl:Tryz.prog.underlying 3=some (.int .i64));simp at tV;subst tV;obtain ⟨jf,tW,jK⟩:=(hf (3,22,1) (by simp)).cC (by kernel_rfl:Tryz.prog.underlying 3=some (.int .i64));simp at tW;subst tW;obtain ⟨qs,JU⟩:=(hf (4,23,1) (by simp)).BN (by kernel_rfl:Tryz.prog.underlying 4=some .bool);simp at JU;subst JU;obtain ⟨WR,B2,m15,TV⟩:=(hf (151,24,1) (by simp)).gV (by kernel_rfl:Tryz.prog.underlying 151=some (.slice 270));rw [show Tryz.prog.cellsOf 270=2 from by kernel_rfl] at B2;simp at B2;subst B2;obtain ⟨qt,rfl,Si,R8⟩:=hU (fun y hy=>KH (TV y hy));exact ⟨⟨v0,v1,v2,v3,v4,⟨V0,⟨V4,V3,V6,⟨V9,V7,V8⟩,V5⟩,VY,V2⟩,v6,v7,v8,v9,v10,v11,v12,jf,qs,qt⟩,by simp,by simp only [au.ok];exact ⟨wf_i64 w0,wf_i64 w1,wf_i64 w2,Nat.le_trans (Nat.le_of_eq l3) m3,k3,wf_i64 w4,k5,wf_i64 w6,wf_i64 w7,Nat.le_trans (Nat.le_of_eq l8) m8,k8,wf_i64 w9,wf_i64 iK,wf_i64 jI,wf_i64 jJ,wf_i64 jK,Nat.le_trans (Nat.le_of_eq Si) m15,R8⟩⟩
theorem OQ {ds:List D} (h:ck Tryz.prog 156 ds):∃x:eW,ds=x.e∧x.ok:=by
 obtain ⟨hl,hf⟩:=h.fields (by kernel_rfl:fieldsOf Tryz.prog 156=some [(151,0,1),(3,1,1),(4,2,1),(145,3,3)]) (by kernel_rfl:Tryz.prog.cellsOf 156=6)
 match ds,hl with
 |[d0,d1,d2,d3,d4,d5],_=>
  obtain ⟨mh,e0,m0,q0⟩:=(hf (151,0,1) (by simp)).gV (by kernel_rfl:Tryz.prog.underlying 151=some (.slice 270));rw [show Tryz.prog.cellsOf 270=2 from by kernel_rfl] at e0;simp at e0;subst e0;obtain ⟨v0,rfl,l0,k0⟩:=hU (fun y hy=>KH (q0 y hy));obtain ⟨v1,e1,w1⟩:=(hf (3,1,1) (by simp)).cC (by kernel_rfl:Tryz.prog.underlying 3=some (.int .i64));simp at e1;subst e1;obtain ⟨v2,e2⟩:=(hf (4,2,1) (by simp)).BN (by kernel_rfl:Tryz.prog.underlying 4=some .bool);simp at e2;subst e2;obtain ⟨y3,e3,k3⟩:=uc (hf (145,3,3) (by simp));obtain ⟨IS,IP,IQ⟩:=y3;simp at e3;obtain ⟨rfl,rfl,rfl⟩:=e3;exact ⟨⟨v0,v1,v2,⟨IS,IP,IQ⟩⟩,by simp,by simp only [eW.ok];exact ⟨Nat.le_trans (Nat.le_of_eq l0) m0,k0,wf_i64 w1,k3⟩⟩
theorem OR {ds:List D} (h:ck Tryz.prog 158 ds):∃x:an,ds=x.e∧x.ok:=by
 obtain ⟨hl,hf⟩:=h.fields (by kernel_rfl:fieldsOf Tryz.prog 158=some [(3,0,1),(3,1,1),(144,2,1),(3,3,1),(150,4,10),(156,14,6),(3,20,1),(3,21,1),(3,22,1),(3,23,1),(3,24,1)]) (by kernel_rfl:Tryz.prog.cellsOf 158=25)
 match ds,hl with
 |[d0,d1,d2,d3,d4,d5,d6,d7,d8,d9,d10,d11,d12,d13,d14,d15,d16,d17,d18,d19,d20,d21,d22,d23,d24],_=>
  obtain ⟨v0,e0,w0⟩:=(hf (3,0,1) (by simp)).cC (by kernel_rfl:Tryz.prog.underlying 3=some (.int .i64));simp at e0;subst e0;obtain ⟨v1,e1,w1⟩:=(hf (3,1,1) (by simp)).cC (by kernel_rfl:Tryz.prog.underlying 3=some (.int .i64));simp at e1;subst e1;obtain ⟨JX,e2,m2,q2⟩:=(hf (144,2,1) (by simp)).gV (by kernel_rfl:Tryz.prog.underlying 144=some (.slice 145));rw [show Tryz.prog.cellsOf 145=3 from by kernel_rfl] at e2;simp at e2;subst e2;obtain ⟨v2,rfl,l2,k2⟩:=hU (fun y hy=>uc (q2 y hy));obtain ⟨v3,e3,w3⟩:=(hf (3,3,1) (by simp)).cC (by kernel_rfl:Tryz.prog.underlying 3=some (.int .i64));simp at e3;subst e3;obtain ⟨y4,e4,k4⟩:=KF (hf (150,4,10) (by simp));obtain ⟨VN,⟨VR,VQ,VT,⟨VW,VU,VV⟩,VS⟩,VM,VP⟩:=y4;simp at e4;obtain ⟨rfl,rfl,rfl,rfl,rfl,rfl,rfl,rfl,rfl,rfl⟩:=e4;obtain ⟨y5,e5,k5⟩:=OQ (hf (156,14,6) (by simp));obtain ⟨V_,V1,VZ,⟨Wb,V',Wa⟩⟩:=y5;simp at e5;obtain ⟨rfl,rfl,rfl,rfl,rfl,rfl⟩:=e5;obtain ⟨v6,e6,w6⟩:=(hf (3,20,1) (by simp)).cC (by kernel_rfl:Tryz.prog.underlying 3=some (.int .i64));simp at e6;subst e6;obtain ⟨v7,e7,w7⟩:=(hf (3,21,1) (by simp)).cC (by kernel_rfl:Tryz.prog.underlying 3=some (.int .i64));simp at e7;subst e7;obtain ⟨v8,e8,w8⟩:=(hf (3,22,1) (by simp)).cC (by kernel_rfl:Tryz.prog.underlying 3=some (.int .i64));simp at e8;subst e8;obtain ⟨v9,e9,w9⟩:=(hf (3,23,1) (by simp)).cC (by kernel_rfl:Tryz.prog.underlying 3=some (.int .i64));simp at e9;subst e9;obtain ⟨v10,pn,iK⟩:=(hf (3,24,1) (by simp)).cC (by kernel_rfl:Tryz.prog.underlying 3=some (.int .i64));simp at pn;subst pn;exact ⟨⟨v0,v1,v2,v3,⟨VN,⟨VR,VQ,VT,⟨VW,VU,VV⟩,VS⟩,VM,VP⟩,⟨V_,V1,VZ,⟨Wb,V',Wa⟩⟩,v6,v7,v8,v9,v10⟩,by simp,by simp only [an.ok];exact ⟨wf_i64 w0,wf_i64 w1,Nat.le_trans (Nat.le_of_eq l2) m2,k2,wf_i64 w3,k4,k5,wf_i64 w6,wf_i64 w7,wf_i64 w8,wf_i64 w9,wf_i64 iK⟩⟩
theorem OX {ds:List D} (h:ck Tryz.prog 33 ds):∃x:jL,ds=x.e∧x.ok:=by
 obtain ⟨hl,hf⟩:=h.fields (by kernel_rfl:fieldsOf Tryz.prog 33=some [(24,0,3),(3,3,1),(3,4,1),(3,5,1),(27,6,2),(28,8,1),(22,9,1),(29,10,1),(22,11,1),(30,12,1),(31,13,1)]) (by kernel_rfl:Tryz.prog.cellsOf 33=14)
 match ds,hl with
 |[d0,d1,d2,d3,d4,d5,d6,d7,d8,d9,d10,d11,d12,d13],_=>
  obtain ⟨y0,e0,k0⟩:=OT (hf (24,0,3) (by simp));obtain ⟨VB,VC,VA⟩:=y0;simp at e0;obtain ⟨rfl,rfl,rfl⟩:=e0;obtain ⟨v1,e1,w1⟩:=(hf (3,3,1) (by simp)).cC (by kernel_rfl:Tryz.prog.underlying 3=some (.int .i64));simp at e1;subst e1;obtain ⟨v2,e2,w2⟩:=(hf (3,4,1) (by simp)).cC (by kernel_rfl:Tryz.prog.underlying 3=some (.int .i64));simp at e2;subst e2;obtain ⟨v3,e3,w3⟩:=(hf (3,5,1) (by simp)).cC (by kernel_rfl:Tryz.prog.underlying 3=some (.int .i64));simp at e3;subst e3;obtain ⟨y4,e4,k4⟩:=OU (hf (27,6,2) (by simp));obtain ⟨VX,VO⟩:=y4;simp at e4;obtain ⟨rfl,rfl⟩:=e4;obtain ⟨WT,e5,m5,q5⟩:=(hf (28,8,1) (by simp)).gV (by kernel_rfl:Tryz.prog.underlying 28=some (.slice 142));rw [show Tryz.prog.cellsOf 142=5 from by kernel_rfl] at e5;simp at e5;subst e5;obtain ⟨v5,rfl,l5,k5⟩:=hU (fun y hy=>OL (q5 y hy));obtain ⟨WU,e6,m6,q6⟩:=(hf (22,9,1) (by simp)).gV (by kernel_rfl:Tryz.prog.underlying 22=some (.slice 3));rw [show Tryz.prog.cellsOf 3=1 from by kernel_rfl] at e6;simp at e6;subst e6;obtain ⟨v6,rfl,l6,k6⟩:=hU (fun y hy=>yV (q6 y hy));obtain ⟨WV,e7,m7,q7⟩:=(hf (29,10,1) (by simp)).gV (by kernel_rfl:Tryz.prog.underlying 29=some (.slice 183));rw [show Tryz.prog.cellsOf 183=3 from by kernel_rfl] at e7;simp at e7;subst e7;obtain ⟨v7,rfl,l7,k7⟩:=hU (fun y hy=>OS (q7 y hy));obtain ⟨N3,e8,m8,q8⟩:=(hf (22,11,1) (by simp)).gV (by kernel_rfl:Tryz.prog.underlying 22=some (.slice 3));rw [show Tryz.prog.cellsOf 3=1 from by kernel_rfl] at e8;simp at e8;subst e8;obtain ⟨v8,rfl,l8,k8⟩:=hU (fun y hy=>yV (q8 y hy));obtain ⟨WW,e9,m9,q9⟩:=(hf (30,12,1) (by simp)).gV (by kernel_rfl:Tryz.prog.underlying 30=some (.slice 153));rw [show Tryz.prog.cellsOf 153=25 from by kernel_rfl] at e9;simp at e9;subst e9;obtain ⟨v9,rfl,l9,k9⟩:=hU (fun y hy=>OP (q9 y hy));obtain ⟨WQ,pn,m10,TU⟩:=(hf (31,13,1) (by simp)).gV (by kernel_rfl:Tryz.prog.underlying 31=some (.slice 158));rw [show Tryz.prog.cellsOf 158=25 from by kernel_rfl] at pn;simp at pn;subst pn;obtain ⟨v10,rfl,Se,R7⟩:=hU (fun y hy=>OR (TU y hy));exact ⟨⟨⟨VB,VC,VA⟩,v1,v2,v3,⟨VX,VO⟩,v5,v6,v7,v8,v9,v10⟩,by simp,by simp only [jL.ok];exact ⟨k0,wf_i64 w1,wf_i64 w2,wf_i64 w3,k4,Nat.le_trans (Nat.le_of_eq l5) m5,k5,Nat.le_trans (Nat.le_of_eq l6) m6,k6,Nat.le_trans (Nat.le_of_eq l7) m7,k7,Nat.le_trans (Nat.le_of_eq l8) m8,k8,Nat.le_trans (Nat.le_of_eq l9) m9,k9,Nat.le_trans (Nat.le_of_eq Se) m10,R7⟩⟩
theorem own:ownKnob Tryz.prog.godebug=none:=by kernel_rfl
theorem Us (xs:List V) (h:kV Tryz.prog Tryz.f4.params.toList xs):OK Tryz.prog 4 xs (.one (.ro false (.bool true))) []:=by
 rw [show Tryz.f4.params.toList=[33,3,3,3] from by kernel_rfl] at h;obtain ⟨x0,xs,rfl,h0,h⟩:=h.cons_inv;obtain ⟨x1,xs,rfl,h1,h⟩:=h.cons_inv;obtain ⟨x2,xs,rfl,h2,h⟩:=h.cons_inv;obtain ⟨x3,xs,rfl,h3,h⟩:=h.cons_inv;obtain rfl:=h.SX;obtain ⟨WN,rfl,g0⟩:=h0.UO (by kernel_rfl);obtain ⟨y0,rfl,k0⟩:=OX g0;obtain ⟨⟨iN,oN,oM⟩,oR,oQ,oP,⟨oO,iO⟩,gY,fB,iQ,iP,gN,fA⟩:=y0;simp only [jL.ok,ij.ok,ik.ok,and_assoc] at k0;obtain ⟨qU,aaW,aaC,aao,aaB,aan,aaG,aas,aaF,aar,aaE,aaq,aaD,aap,qV,aaZ,qT,rb,qX,aaX,q_,aa0,qY,aaY,qZ,rh,qW,re⟩:=k0;obtain ⟨kY,rfl,w1⟩:=h1.int (by kernel_rfl:Tryz.prog.underlying 3=some (.int .i64));obtain ⟨aS,rfl,w2⟩:=h2.int (by kernel_rfl:Tryz.prog.underlying 3=some (.int .i64));obtain ⟨mO,rfl,w3⟩:=h3.int (by kernel_rfl:Tryz.prog.underlying 3=some (.int .i64));cases aP:jQ fB kY aS with
 |true=>exact L5 416 _ _ _ (U8 iN oN oM oR oQ oP oO iO gY fB iQ iP gN fA kY aS mO qU qV qT rb qX q_ qY qZ rh qW re aP)
 |false=>exact L5 416 _ _ _ (U7 iN oN oM oR oQ oP oO iO gY fB iQ iP gN fA kY aS mO qU qV qT rb qX q_ qY qZ rh qW re aP)
theorem lifted (os:Os) (started:os.Started) (H:Type) (enc:TypeId×Value→H):
 ReturnsInHanded {} Tryz.checked os 4 .any (Rows.fnExactStampEndSpec.pre6 enc Tryz.prog Tryz.f4 Rows.fnExactStampEndRow.domain false) (Rows.fnExactStampEndSpec.post enc Tryz.prog Tryz.f4 false true false false):=by
 refine returnsInHanded_of_change (C:=Tryz.checked) own started (by kernel_rfl) Tryz.func4
  (ChangeSpec.witness6 (enc:=enc) (C:=Tryz.checked) false ⟨#[],#[.agg #[.slice none 0 0,.int .i64 0,.int .i64 0,.int .i64 0,.int .i64 0,.int .i64 0,.int .i64 0,.slice none 0 0,.slice none 0 0,.slice none 0 0,.slice none 0 0,.slice none 0 0,.slice none 0 0,.slice none 0 0],.int .i64 0,.int .i64 0,.int .i64 0],[]⟩ 8 (by kernel_rfl) (by kernel_rfl) (by kernel_rfl) (by kernel_rfl)) ?_
 intro W base args ds gs before Ro hW aaj _;refine Sl (S:=[33,24,22,3,27,25,233,28,142,140,138,307,144,145,9,53,5,29,183,30,153,150,148,146,4,151,270,31,158,156]) (tb:=4) (by kernel_rfl) (by kernel_rfl) (by kernel_rfl) Us (fun j t v h1 h2=>⟨_,_,Ro j t v h1 h2⟩) hW rfl (by kernel_rfl) (by kernel_rfl) (fun hl=>?_)
 match ds,hl with
 |[d0,d1,d2,d3],_=>exact ⟨rfl,rfl,rfl⟩
theorem RN:laidOutB Tryz.prog=true:=by kernel_rfl
theorem RP:mapsRowed Tryz.prog=true:=by kernel_rfl
theorem RT:(Tryz.prog.stops==[])=true:=by kernel_rfl
theorem RU:(Tryz.prog.stopKnobs==[])=true:=by kernel_rfl
theorem RV:(Rows.fnExactStampEndRow.inPlace==Tryz.prog.inPlace 4)=true:=by kernel_rfl
theorem RW:(Rows.fnExactStampEndRow.unfollowed==Tryz.prog.unfollowed 4)=true:=by kernel_rfl
theorem RX:(Rows.fnExactStampEndRow.recurses==Tryz.prog.recurses 4)=true:=by kernel_rfl
theorem RY:(Rows.fnExactStampEndRow.named==Tryz.prog.varsNamed 4)=true:=by kernel_rfl
theorem RZ:(Rows.fnExactStampEndRow.plainKeys==Tryz.prog.plainKeys)=true:=by kernel_rfl
theorem R4:Tryz.prog.stopsHeard=true:=by kernel_rfl
theorem RQ:Tryz.prog.mayEnter=true:=by kernel_rfl
theorem RR:(Rows.fnExactStampEndRow.lifted==Tryz.prog.liftsFinal)=true:=by kernel_rfl
theorem RS:(Tryz.prog.make==some Rows.fnExactStampEndRow.make)=true:=by kernel_rfl
theorem R6:Tryz.pinned.checked.prog.funcNamed Rows.fnExactStampEndRow.func=some 4:=by kernel_rfl
theorem R5:joinedFacts Tryz.prog 4 Tryz.f4 Rows.fnExactStampEndSpec Rows.fnExactStampEndRow=true:=by
 unfold joinedFacts;simp only [RN,RP,RT,RU,RV,RW,RX,RY,RZ,R4,RQ,RR,RS,Bool.true_and,Bool.and_true];kernel_rfl
theorem TJ:Rows.fnExactStampEndRow.holds Tryz.pinned (OpenSpec.ofChange Rows.fnExactStampEndSpec):=
 OpenClaim.holds_of_wide 4 Tryz.f4 rfl rfl rfl rfl rfl rfl rfl ⟨rfl,rfl,rfl,rfl,rfl⟩ rfl rfl rfl rfl rfl (R6) Tryz.func4 (R5)
  (of_decide_eq_true (by kernel_rfl)) (by unfold Func.isWrapper;first|(rw [if_pos (by decide+kernel)];kernel_rfl)|(rw [if_neg (by decide+kernel)];exact ⟨rfl,rfl⟩))
  (fun os started H enc _=>lifted os started H enc)
theorem proved:Rows.FnExactStampEndSaid:=TJ
#print axioms proved
end Go.Proofs.YtohlfelngklcfaaGreat.fnExactStampEnd
