/- A part of the proof. -/
import Derived.Test.YtohlfelngklcfaaGreatH4
import Derived.Test.YtohlfelngklcfaaGreatXSPc0
set_option linter.all false
namespace Go.Proofs.YtohlfelngklcfaaGreat.OM
open List renaming length_cons→za,length_append→zb,length_nil→ze,append_nil→zf,map→zg,replicate→zj,sizeOf_lt_of_mem→zk,mem_singleton→zm,cons_append→zn,mem_append→zo,take_of_length_le→zt,all_eq_true→zu
open Decidable renaming not_not→zd
open Int renaming add_zero→zh
open SizeOf renaming sizeOf→zi
open UInt8 renaming ofNat→zp
open Nat renaming le_refl→zq
open Eq renaming trans→zr
set_option maxHeartbeats 4000000
set_option maxRecDepth 100000
variable (tF qu:Int) (x:aa) (k0 k1:Bool) (l aH eM:List Int) (jg tE kz:Int) (eE:List ak) (c9 qw ca ie c8 qv oC lT:Int) (lP:Bool) (dk:Int) (fj:List aC) (lS dj:Int) (gW:List Int) (lU dh lW c_ lV:Int) (aO:List ay) (gX:ByteArray) (aK:List ao) (eC:List aa) (aE:List Int) (dA:Int) (aZ:List aJ) (cb:Int) (fc ba:List Int) (oH lZ c3:Int) (az:List au) (oD cZ:Int) (aG:List an) (bq:List af) (bO:ByteArray) (id dW s eO u eQ eP eR eT eS:Int) (dq:ByteArray) (bI:List aa) (eN:Int) (bT:List Int) (eD:List ak) (oI kB fM:Int) (kA:Bool) (ae:List ay) (kD k oE kC oF:Int) (gD:ByteArray) (eG lO kx lY oG lQ:Int) (oJ:Bool) (lR:Int) (eB:List ak) (lX left:Int)
def Mw:List (Nat×PF):=[(54,x6),(63,Bb),(69,Hj),(70,Hk),(71,Hl),(72,Hm),(73,Hn),(74,Ho),(75,Hp),(76,Hq),(142,FG),(143,FH),(144,FI),(145,FJ),(146,FK),(147,FL),(148,FM),(149,FN),(150,FO),(151,FP),(152,FQ),(153,FR),(154,FT),(155,FU),(156,FV),(157,FW),(158,FX),(159,FY),(160,FZ),(161,F0),(162,F1),(163,F2),(164,F3),(165,F4),(166,F5),(167,F6),(168,F7),(169,F8),(171,F9),(172,F_),(173,F'),(174,Gb),(175,Gc),(176,Gd),(177,Ge),(178,Gf),(179,Gg),(180,Gi),(181,Gj),(182,Gk),(183,Gl),(184,Gm),(186,Gp),(187,Gq),(188,Gr),(189,Gs),(190,Gt),(191,Gu),(192,Gv),(193,Gx),(194,Gy),(195,Gz),(196,A9),(197,GA),(198,GB),(210,p_),(211,qa),(212,s9),(213,s_),(214,ta),(215,tc),(216,oo),(217,qc),(218,td),(219,te),(220,lE),(221,qd),(222,qe),(223,tf),(224,qf),(225,tg),(226,qg),(227,th),(228,qh),(229,lF),(230,qi),(231,ti),(232,qj),(233,gK),(234,GC),(235,GD),(236,GF),(237,GG),(238,GH),(239,GI),(240,GJ),(241,GK),(242,GL),(243,GM),(244,GN),(245,GO),(246,GP),(247,GQ),(248,GR),(249,GS),(250,GU),(251,GV),(252,GW),(253,GX),(254,GY),(255,GZ),(256,G0),(257,G1),(258,G2),(259,G3),(335,xW),(344,A_),(353,G4),(355,G5),(356,xX),(359,A'),(362,G6),(363,G7),(368,G8),(377,Ba),(387,xY),(397,xZ),(400,G9),(416,qk),(431,x4),(432,x5),(464,G_),(465,jc),(466,G'),(467,jd),(499,Ha),(500,Hb),(501,Hc),(502,He),(532,Hf),(533,Hg),(534,Hh),(563,Hi)]
def TT (k:Nat):Option PF:=Mw.lookup k
@[simp] abbrev Wk (k:Bool) (v0:List Int) (v1 v2 v3 v4 v5 v6:Int) (v7:List ay) (v8:List ao) (v9:List Int) (v10:List aJ) (v11:List Int) (je:List au) (jf:List an):List C:=[.ro k (.sl 1 (v0.map ei)),.ro false (di v1),.ro false (di v2),.ro false (di v3),.ro false (di v4),.ro false (di v5),.ro false (di v6),.ro k (.sl 5 (v7.map ay.e)),.ro k (.sl 5 (v8.map ao.e)),.ro k (.sl 1 (v9.map ei)),.ro k (.sl 3 (v10.map aJ.e)),.ro k (.sl 1 (v11.map ei)),.ro k (.sl 25 (je.map au.e)),.ro k (.sl 25 (jf.map an.e))]
@[simp] abbrev Wl (k:Bool) (v0 v1:Int) (v2:List af) (v3 v4 v5 v6 v7 v8 v9:Int) (v10:ByteArray) (v11:List aa) (je:Int) (jf:List Int) (qs:List ak) (qt:Int) (tu:Bool) (tv tw:Int) (tx:ByteArray) (v20 tz tA tB tC:Int):List C:=[.ro false (di v0),.ro false (di v1),.ro k (.sl 3 (v2.map af.e)),.ro false (di v3),.ro false (di v4),.ro false (di v5),.ro false (di v6),.ro false (di v7),.ro false (di v8),.ro false (di v9),.ro false (.str v10),.ro k (.sl 7 (v11.map aa.e)),.ro false (di je),.ro k (.sl 1 (jf.map ei)),.ro k (.sl 2 (qs.map ak.e)),.ro false (di qt),.ro false (.bool tu),.ro false (di tv),.ro false (di tw),.ro false (.str tx),.ro false (di v20),.ro false (di tz),.ro false (di tA),.ro false (di tB),.ro false (di tC)]
@[simp] abbrev Wu (k:Bool) (v0 v1 v2:Int) (v3:List af) (v4 v5 v6 v7 v8 v9 v10:Int) (v11:ByteArray) (je:List aa) (jf:Int) (qs:List Int) (qt tu:Int) (tv:List ay) (tw tx v20 tz tA:Int) (tB:Bool) (tC:List ak):List C:=[.ro false (di v0),.ro false (di v1),.ro false (di v2),.ro k (.sl 3 (v3.map af.e)),.ro false (di v4),.ro false (di v5),.ro false (di v6),.ro false (di v7),.ro false (di v8),.ro false (di v9),.ro false (di v10),.ro false (.str v11),.ro k (.sl 7 (je.map aa.e)),.ro false (di jf),.ro k (.sl 1 (qs.map ei)),.ro false (di qt),.ro false (di tu),.ro k (.sl 5 (tv.map ay.e)),.ro false (di tw),.ro false (di tx),.ro false (di v20),.ro false (di tz),.ro false (di tA),.ro false (.bool tB),.ro k (.sl 2 (tC.map ak.e))]
@[simp] abbrev Wv (v0:List Int) (v1 v2 v3 v4 v5 v6:Int) (v7:List ay) (v8:List ao) (v9:List Int) (v10:List aJ) (v11:List Int) (je:List au) (jf:List an):List C:=[.own (.sl 1 (v0.map ei)),.ro false (di v1),.ro false (di v2),.ro false (di v3),.ro false (di v4),.ro false (di v5),.ro false (di v6),.own (.sl 5 (v7.map ay.e)),.own (.sl 5 (v8.map ao.e)),.own (.sl 1 (v9.map ei)),.own (.sl 3 (v10.map aJ.e)),.own (.sl 1 (v11.map ei)),.own (.sl 25 (je.map au.e)),.own (.sl 25 (jf.map an.e))]
@[simp] abbrev Ww (v0 v1:Int) (v2:List af) (v3 v4 v5 v6 v7 v8 v9:Int) (v10:ByteArray) (v11:List aa) (je:Int) (jf:List Int) (qs:List ak) (qt:Int) (tu:Bool) (tv tw:Int) (tx:ByteArray) (v20 tz tA tB tC:Int):List C:=[.ro false (di v0),.ro false (di v1),.own (.sl 3 (v2.map af.e)),.ro false (di v3),.ro false (di v4),.ro false (di v5),.ro false (di v6),.ro false (di v7),.ro false (di v8),.ro false (di v9),.ro false (.str v10),.own (.sl 7 (v11.map aa.e)),.ro false (di je),.own (.sl 1 (jf.map ei)),.own (.sl 2 (qs.map ak.e)),.ro false (di qt),.ro false (.bool tu),.ro false (di tv),.ro false (di tw),.ro false (.str tx),.ro false (di v20),.ro false (di tz),.ro false (di tA),.ro false (di tB),.ro false (di tC)]
@[simp] abbrev Wx (v0 v1 v2:Int) (v3:List af) (v4 v5 v6 v7 v8 v9 v10:Int) (v11:ByteArray) (je:List aa) (jf:Int) (qs:List Int) (qt tu:Int) (tv:List ay) (tw tx v20 tz tA:Int) (tB:Bool) (tC:List ak):List C:=[.ro false (di v0),.ro false (di v1),.ro false (di v2),.own (.sl 3 (v3.map af.e)),.ro false (di v4),.ro false (di v5),.ro false (di v6),.ro false (di v7),.ro false (di v8),.ro false (di v9),.ro false (di v10),.ro false (.str v11),.own (.sl 7 (je.map aa.e)),.ro false (di jf),.own (.sl 1 (qs.map ei)),.ro false (di qt),.ro false (di tu),.own (.sl 5 (tv.map ay.e)),.ro false (di tw),.ro false (di tx),.ro false (di v20),.ro false (di tz),.ro false (di tA),.ro false (.bool tB),.own (.sl 2 (tC.map ak.e))]
@[simp] abbrev Wy (k:Bool) (v0 v1 v2 v3 v4 v5:Int) (v6:ByteArray) (v7:List aa) (v8:Int) (v9:List Int):List C:=[.ro false (di v0),.ro false (di v1),.ro false (di v2),.ro false (di v3),.ro false (di v4),.ro false (di v5),.ro false (.str v6),.ro k (.sl 7 (v7.map aa.e)),.ro false (di v8),.ro k (.sl 1 (v9.map ei))]
@[simp] abbrev Wz (k:Bool) (v0 v1 v2 v3 v4:Int) (v5:ByteArray) (v6:List aa):List C:=[.ro false (di v0),.ro false (di v1),.ro false (di v2),.ro false (di v3),.ro false (di v4),.ro false (.str v5),.ro k (.sl 7 (v6.map aa.e))]
@[simp] abbrev WA (k:Bool) (v0:List ak) (v1:Int) (v2:Bool) (v3 v4:Int) (v5:ByteArray):List C:=[.ro k (.sl 2 (v0.map ak.e)),.ro false (di v1),.ro false (.bool v2),.ro false (di v3),.ro false (di v4),.ro false (.str v5)]
@[simp] abbrev WB (v0:List Int) (v1 v2 v3 v4 v5 v6:Int) (v7:List ay) (v8:List ao) (v9:List Int) (v10:List aJ) (v11:List Int) (je:List au) (jf:List an):List C:=[.ro false (.sl 1 (v0.map ei)),.ro false (di v1),.ro false (di v2),.ro false (di v3),.ro false (di v4),.ro false (di v5),.ro false (di v6),.ro false (.sl 5 (v7.map ay.e)),.ro false (.sl 5 (v8.map ao.e)),.ro false (.sl 1 (v9.map ei)),.ro false (.sl 3 (v10.map aJ.e)),.ro false (.sl 1 (v11.map ei)),.ro false (.sl 25 (je.map au.e)),.ro false (.sl 25 (jf.map an.e))]
@[simp] abbrev Wm (v0 v1 v2 v3 v4:Int) (v5:ByteArray) (v6:List aa):List C:=[.ro false (di v0),.ro false (di v1),.ro false (di v2),.ro false (di v3),.ro false (di v4),.ro false (.str v5),.own (.sl 7 (v6.map aa.e))]
@[simp] abbrev Wn (k:Bool) (v0 v1 v2:Int) (v3:List aC) (v4:List Int):List C:=[.ro false (di v0),.ro false (di v1),.ro false (di v2),.ro k (.sl 2 (v3.map aC.e)),.ro k (.sl 1 (v4.map eb))]
@[simp] abbrev Wo (v0 v1 v2 v3 v4 v5:Int) (v6:ByteArray) (v7:List aa) (v8:Int) (v9:List Int):List C:=[.ro false (di v0),.ro false (di v1),.ro false (di v2),.ro false (di v3),.ro false (di v4),.ro false (di v5),.ro false (.str v6),.own (.sl 7 (v7.map aa.e)),.ro false (di v8),.own (.sl 1 (v9.map ei))]
@[simp] abbrev Wq (v0:List ak) (v1:Int) (v2:Bool) (v3 v4:Int) (v5:ByteArray):List C:=[.own (.sl 2 (v0.map ak.e)),.ro false (di v1),.ro false (.bool v2),.ro false (di v3),.ro false (di v4),.ro false (.str v5)]
@[simp] abbrev Wr (v0 v1 v2 v3 v4:Int):List C:=[.ro false (di v0),.ro false (di v1),.ro false (di v2),.ro false (di v3),.ro false (di v4)]
@[simp] abbrev Ws (k:Bool) (v0:List Int) (v1 v2:Int):List C:=[.ro k (.sl 1 (v0.map ei)),.ro false (di v1),.ro false (di v2)]
@[simp] abbrev Wt (v0 v1:Int) (v2:ByteArray):List C:=[.ro false (di v0),.ro false (di v1),.ro false (.str v2)]
@[simp] theorem t244 (h:l.length≤1048576):Gw TT 244 [.one (.ro k0 (.sl 1 (l.map ei)))]=some (.one (.own (.sl 1 (l.map ei))),[]):=by
 refine Ga GN ES ?_;unfold ES;refine Ud Oo ?_;repeat intro hc
 ·refine bn (σ:=List Int×List Int) (fun s=>[(0,AV.v k0 (D.sl 1 (zg ei l)),none),(3,AV.pl 3 0 [],some (Rt.aR [C.own (D.sl 1 (s.1.map ei++zj s.2.length [.int .i64 0]))])),(4,AV.v false (di (s.1.length:Nat)),none)]) (fun s=>l=s.1++s.2) (fun s=>s.2.length) ([],l) (by simp) rfl ?_;rintro ⟨pre,rest⟩ h1;simp only at h1;subst h1;simp only [zb,za] at h;rcases rest with _|⟨d,rest⟩
  ·unfold H4;refine Ud Oo ?_;all_goals simp [GN]
  ·unfold H4;simp only [za] at h;have hw:=Wi ((pre.length:Int)+1);refine Ud (J2 @oz hw) ?_;repeat intro hc
   all_goals exact ⟨(pre++[d],rest),by simp,by simp,by simp⟩
@[simp] theorem t152 (h:l.length≤1048576):Gw TT 152 [.one (.ro k0 (.sl 1 (l.map ei))),.one (.ro k1 (.sl 1 (l.map ei)))]=some (vb true,[]):=by
 refine Ga FQ DZ ?_;unfold DZ;refine Ud Oo ?_
 ·refine bn (σ:=List Int×List Int) (fun s=>[(0,AV.v k0 (D.sl 1 (zg ei l)),none),(1,AV.v k1 (D.sl 1 (zg ei l)),none),(5,AV.v false (di (s.1.length:Nat)),none)]) (fun s=>l=s.1++s.2) (fun s=>s.2.length) ([],l) (by simp) rfl ?_;rintro ⟨pre,rest⟩ h1;simp only at h1;subst h1;simp only [zb,za] at h;rcases rest with _|⟨d,rest⟩
  ·unfold Hv;refine Ud Oo ?_;all_goals simp [FQ]
  ·unfold Hv;simp only [za] at h;have hw:=Wi ((pre.length:Int)+1);refine Ud hw ?_;repeat intro hc
   all_goals exact ⟨(pre++[d],rest),by simp,by simp,by simp⟩
@[simp] theorem t236 (h:l.length≤1048576):Gw TT 236 [.one (.ro k0 (.sl 1 (l.map eb)))]=some (.one (.own (.sl 1 (l.map eb))),[]):=by
 refine Ga GF EJ ?_;unfold EJ;refine Ud Oo ?_;repeat intro hc
 ·refine bn (σ:=List Int×List Int) (fun s=>[(0,AV.v k0 (D.sl 1 (zg eb l)),none),(3,AV.pl 3 0 [],some (Rt.aR [C.own (D.sl 1 (s.1.map eb++zj s.2.length [.int .u8 0]))])),(4,AV.v false (di (s.1.length:Nat)),none)]) (fun s=>l=s.1++s.2) (fun s=>s.2.length) ([],l) (by simp) rfl ?_;rintro ⟨pre,rest⟩ h1;simp only at h1;subst h1;simp only [zb,za] at h;rcases rest with _|⟨d,rest⟩
  ·unfold HZ;refine Ud Oo ?_;all_goals simp [GF]
  ·unfold HZ;simp only [za] at h;have hw:=Wi ((pre.length:Int)+1);refine Ud (J2 @oz hw) ?_;repeat intro hc
   all_goals exact ⟨(pre++[d],rest),by simp,by simp,by simp⟩
@[simp] theorem t144 (h:l.length≤1048576):Gw TT 144 [.one (.ro k0 (.sl 1 (l.map eb))),.one (.ro k1 (.sl 1 (l.map eb)))]=some (vb true,[]):=by
 refine Ga FI DR ?_;unfold DR;refine Ud Oo ?_
 ·refine bn (σ:=List Int×List Int) (fun s=>[(0,AV.v k0 (D.sl 1 (zg eb l)),none),(1,AV.v k1 (D.sl 1 (zg eb l)),none),(5,AV.v false (di (s.1.length:Nat)),none)]) (fun s=>l=s.1++s.2) (fun s=>s.2.length) ([],l) (by simp) rfl ?_;rintro ⟨pre,rest⟩ h1;simp only at h1;subst h1;simp only [zb,za] at h;rcases rest with _|⟨d,rest⟩
  ·unfold Hs;refine Ud Oo ?_;all_goals simp [FI]
  ·unfold Hs;simp only [za] at h;have hw:=Wi ((pre.length:Int)+1);refine Ud hw ?_;repeat intro hc
   all_goals exact ⟨(pre++[d],rest),by simp,by simp,by simp⟩
@[simp] theorem t257 (eG:ByteArray):Gw TT 257 [.st [.ro false (di tF),.ro false (di ie),.ro false (.str eG)]]=some (.st [.ro false (di tF),.ro false (di ie),.ro false (.str eG)],[]):=by
 refine Ga G1 E7 ?_;unfold E7;refine Ua Oo ?_;all_goals simp [G1]
@[simp] theorem t258 (l:List af) (h:l.length≤1048576) (hs:af.aq l):Gw TT 258 [.one (.ro k0 (.sl 3 (l.map af.e)))]=some (.one (.own (.sl 3 (l.map af.e))),[]):=by
 refine Ga G2 E8 ?_;unfold E8;refine Ud Oo ?_;repeat intro hc
 ·refine bn (σ:=List af×List af) (fun s=>[(0,AV.v k0 (D.sl 3 (zg af.e l)),none),(3,AV.pl 3 0 [],some (Rt.aR [C.own (D.sl 3 (s.1.map af.e++zj s.2.length [.int .i64 0,.int .i64 0,.str ⟨#[]⟩]))])),(4,AV.v false (di (s.1.length:Nat)),none)]) (fun s=>l=s.1++s.2) (fun s=>s.2.length) ([],l) (by simp) rfl ?_;rintro ⟨pre,rest⟩ h1;simp only at h1;subst h1;simp only [zb,za] at h;rcases rest with _|⟨⟨gl,fV,cY⟩,rest⟩
  ·unfold H_;refine Ud Oo ?_;all_goals simp [G2]
  ·unfold H_;simp only [za] at h;have hw:=Wi ((pre.length:Int)+1);have hd:=hs ⟨gl,fV,cY⟩ (by simp);simp only [af.sm,and_assoc] at hd;have Dl:=hd;refine Ud (J3 @oz hw Dl) ?_;repeat intro hc
   all_goals exact ⟨(pre++[⟨gl,fV,cY⟩],rest),by simp,by simp,by simp⟩
@[simp] theorem t165 (eG:ByteArray):Gw TT 165 [.st [.ro false (di tF),.ro false (di ie),.ro false (.str eG)],.st [.ro false (di tF),.ro false (di ie),.ro false (.str eG)]]=some (vb true,[]):=by
 refine Ga F4 Ea ?_;unfold Ea;refine Ua Oo ?_;all_goals simp [F4]
@[simp] theorem t166 (l:List af) (h:l.length≤1048576) (hs:af.aq l):Gw TT 166 [.one (.ro k0 (.sl 3 (l.map af.e))),.one (.ro k1 (.sl 3 (l.map af.e)))]=some (vb true,[]):=by
 refine Ga F5 Eb ?_;unfold Eb;refine Ud Oo ?_
 ·refine bn (σ:=List af×List af) (fun s=>[(0,AV.v k0 (D.sl 3 (zg af.e l)),none),(1,AV.v k1 (D.sl 3 (zg af.e l)),none),(5,AV.v false (di (s.1.length:Nat)),none)]) (fun s=>l=s.1++s.2) (fun s=>s.2.length) ([],l) (by simp) rfl ?_;rintro ⟨pre,rest⟩ h1;simp only at h1;subst h1;simp only [zb,za] at h;rcases rest with _|⟨⟨gl,fV,cY⟩,rest⟩
  ·unfold HB;refine Ud Oo ?_;all_goals simp [F5]
  ·unfold HB;simp only [za] at h;have hw:=Wi ((pre.length:Int)+1);have hd:=hs ⟨gl,fV,cY⟩ (by simp);simp only [af.sm,and_assoc] at hd;have Dl:=hd;refine Ud (J2 hw Dl) ?_;repeat intro hc
   all_goals exact ⟨(pre++[⟨gl,fV,cY⟩],rest),by simp,by simp,by simp⟩
@[simp] theorem t251 (ae:List af) (g_:ae.length≤1048576) (ny:af.aq ae):Gw TT 251 [.st [.ro false (di dW),.ro k0 (.sl 3 (ae.map af.e))]]=some (.st [.ro false (di dW),.own (.sl 3 (ae.map af.e))],[]):=by
 refine Ga GV EZ ?_;unfold EZ;refine Ua (J2 g_ ny) ?_;all_goals simp [GV]
@[simp] theorem t252 (l:List ak) (h:l.length≤1048576) (hs:ak.aq l):Gw TT 252 [.one (.ro k0 (.sl 2 (l.map ak.e)))]=some (.one (.own (.sl 2 (l.map ak.e))),[]):=by
 refine Ga GW E1 ?_;unfold E1;refine Ud Oo ?_;repeat intro hc
 ·refine bn (σ:=List ak×List ak) (fun s=>[(0,AV.v k0 (D.sl 2 (zg ak.e l)),none),(3,AV.pl 3 0 [],some (Rt.aR [C.own (D.sl 2 (s.1.map ak.e++zj s.2.length [.int .i64 0,.sl 3 []]))])),(4,AV.v false (di (s.1.length:Nat)),none)]) (fun s=>l=s.1++s.2) (fun s=>s.2.length) ([],l) (by simp) rfl ?_;rintro ⟨pre,rest⟩ h1;simp only at h1;subst h1;simp only [zb,za] at h;rcases rest with _|⟨⟨br,ax⟩,rest⟩
  ·unfold H7;refine Ud Oo ?_;all_goals simp [GW]
  ·unfold H7;simp only [za] at h;have hw:=Wi ((pre.length:Int)+1);have hd:=hs ⟨br,ax⟩ (by simp);simp only [ak.sm,and_assoc] at hd;obtain ⟨j5,nz⟩:=hd;refine Ud (J4 @oz hw j5 nz) ?_;repeat intro hc
   all_goals exact ⟨(pre++[⟨br,ax⟩],rest),by simp,by simp,by simp⟩
@[simp] theorem t159 (ae:List af) (c5:ae.length≤1048576) (dU:af.aq ae):Gw TT 159 [.st [.ro false (di dW),.ro k0 (.sl 3 (ae.map af.e))],.st [.ro false (di dW),.ro k1 (.sl 3 (ae.map af.e))]]=some (vb true,[]):=by
 refine Ga FY D6 ?_;unfold D6;refine Ua (J2 c5 dU) ?_;all_goals simp [FY]
@[simp] theorem t160 (l:List ak) (h:l.length≤1048576) (hs:ak.aq l):Gw TT 160 [.one (.ro k0 (.sl 2 (l.map ak.e))),.one (.ro k1 (.sl 2 (l.map ak.e)))]=some (vb true,[]):=by
 refine Ga FZ D7 ?_;unfold D7;refine Ud Oo ?_
 ·refine bn (σ:=List ak×List ak) (fun s=>[(0,AV.v k0 (D.sl 2 (zg ak.e l)),none),(1,AV.v k1 (D.sl 2 (zg ak.e l)),none),(5,AV.v false (di (s.1.length:Nat)),none)]) (fun s=>l=s.1++s.2) (fun s=>s.2.length) ([],l) (by simp) rfl ?_;rintro ⟨pre,rest⟩ h1;simp only at h1;subst h1;simp only [zb,za] at h;rcases rest with _|⟨⟨br,ax⟩,rest⟩
  ·unfold Hy;refine Ud Oo ?_;all_goals simp [FZ]
  ·unfold Hy;simp only [za] at h;have hw:=Wi ((pre.length:Int)+1);have hd:=hs ⟨br,ax⟩ (by simp);simp only [ak.sm,and_assoc] at hd;obtain ⟨j5,nz⟩:=hd;refine Ud (J3 hw j5 nz) ?_;repeat intro hc
   all_goals exact ⟨(pre++[⟨br,ax⟩],rest),by simp,by simp,by simp⟩
@[simp] theorem t239:Gw TT 239 [.st [.ro false (di qu),.ro false (di jg),.ro false (di kx)]]=some (.st [.ro false (di qu),.ro false (di jg),.ro false (di kx)],[]):=by
 refine Ga GI EM ?_;unfold EM;refine Ua Oo ?_;all_goals simp [GI]
@[simp] theorem t240 (l:List aJ) (h:l.length≤1048576):Gw TT 240 [.one (.ro k0 (.sl 3 (l.map aJ.e)))]=some (.one (.own (.sl 3 (l.map aJ.e))),[]):=by
 refine Ga GJ EN ?_;unfold EN;refine Ud Oo ?_;repeat intro hc
 ·refine bn (σ:=List aJ×List aJ) (fun s=>[(0,AV.v k0 (D.sl 3 (zg aJ.e l)),none),(3,AV.pl 3 0 [],some (Rt.aR [C.own (D.sl 3 (s.1.map aJ.e++zj s.2.length [.int .i64 0,.int .i64 0,.int .i64 0]))])),(4,AV.v false (di (s.1.length:Nat)),none)]) (fun s=>l=s.1++s.2) (fun s=>s.2.length) ([],l) (by simp) rfl ?_;rintro ⟨pre,rest⟩ h1;simp only at h1;subst h1;simp only [zb,za] at h;rcases rest with _|⟨⟨fk,cL,dO⟩,rest⟩
  ·unfold H2;refine Ud Oo ?_;all_goals simp [GJ]
  ·unfold H2;simp only [za] at h;have hw:=Wi ((pre.length:Int)+1);refine Ud (J2 @oz hw) ?_;repeat intro hc
   all_goals exact ⟨(pre++[⟨fk,cL,dO⟩],rest),by simp,by simp,by simp⟩
@[simp] theorem t147:Gw TT 147 [.st [.ro false (di qu),.ro false (di jg),.ro false (di kx)],.st [.ro false (di qu),.ro false (di jg),.ro false (di kx)]]=some (vb true,[]):=by
 refine Ga FL DU ?_;unfold DU;refine Ua Oo ?_;all_goals simp [FL]
@[simp] theorem t148 (l:List aJ) (h:l.length≤1048576):Gw TT 148 [.one (.ro k0 (.sl 3 (l.map aJ.e))),.one (.ro k1 (.sl 3 (l.map aJ.e)))]=some (vb true,[]):=by
 refine Ga FM DV ?_;unfold DV;refine Ud Oo ?_
 ·refine bn (σ:=List aJ×List aJ) (fun s=>[(0,AV.v k0 (D.sl 3 (zg aJ.e l)),none),(1,AV.v k1 (D.sl 3 (zg aJ.e l)),none),(5,AV.v false (di (s.1.length:Nat)),none)]) (fun s=>l=s.1++s.2) (fun s=>s.2.length) ([],l) (by simp) rfl ?_;rintro ⟨pre,rest⟩ h1;simp only at h1;subst h1;simp only [zb,za] at h;rcases rest with _|⟨⟨fk,cL,dO⟩,rest⟩
  ·unfold Ht;refine Ud Oo ?_;all_goals simp [FM]
  ·unfold Ht;simp only [za] at h;have hw:=Wi ((pre.length:Int)+1);refine Ud hw ?_;repeat intro hc
   all_goals exact ⟨(pre++[⟨fk,cL,dO⟩],rest),by simp,by simp,by simp⟩
@[simp] theorem t248 (ym yn:Int):Gw TT 248 [.st [.ro false (di qu),.ro false (di jg),.ro false (di ca),.ro false (di ym),.ro false (di yn)]]=some (.st [.ro false (di qu),.ro false (di jg),.ro false (di ca),.ro false (di ym),.ro false (di yn)],[]):=by
 refine Ga GR EW ?_;unfold EW;refine Ua Oo ?_;all_goals simp [GR]
@[simp] theorem t249 (l:List ay) (h:l.length≤1048576):Gw TT 249 [.one (.ro k0 (.sl 5 (l.map ay.e)))]=some (.one (.own (.sl 5 (l.map ay.e))),[]):=by
 refine Ga GS EX ?_;unfold EX;refine Ud Oo ?_;repeat intro hc
 ·refine bn (σ:=List ay×List ay) (fun s=>[(0,AV.v k0 (D.sl 5 (zg ay.e l)),none),(3,AV.pl 3 0 [],some (Rt.aR [C.own (D.sl 5 (s.1.map ay.e++zj s.2.length [.int .i64 0,.int .i64 0,.int .i64 0,.int .i64 0,.int .i64 0]))])),(4,AV.v false (di (s.1.length:Nat)),none)]) (fun s=>l=s.1++s.2) (fun s=>s.2.length) ([],l) (by simp) rfl ?_;rintro ⟨pre,rest⟩ h1;simp only at h1;subst h1;simp only [zb,za] at h;rcases rest with _|⟨⟨fk,cL,bh,mH,mI⟩,rest⟩
  ·unfold H6;refine Ud Oo ?_;all_goals simp [GS]
  ·unfold H6;simp only [za] at h;have hw:=Wi ((pre.length:Int)+1);refine Ud (J2 @oz hw) ?_;repeat intro hc
   all_goals exact ⟨(pre++[⟨fk,cL,bh,mH,mI⟩],rest),by simp,by simp,by simp⟩
@[simp] theorem t156 (ym yn:Int):Gw TT 156 [.st [.ro false (di qu),.ro false (di jg),.ro false (di ca),.ro false (di ym),.ro false (di yn)],.st [.ro false (di qu),.ro false (di jg),.ro false (di ca),.ro false (di ym),.ro false (di yn)]]=some (vb true,[]):=by
 refine Ga FV D3 ?_;unfold D3;refine Ua Oo ?_;all_goals simp [FV]
@[simp] theorem t157 (l:List ay) (h:l.length≤1048576):Gw TT 157 [.one (.ro k0 (.sl 5 (l.map ay.e))),.one (.ro k1 (.sl 5 (l.map ay.e)))]=some (vb true,[]):=by
 refine Ga FW D4 ?_;unfold D4;refine Ud Oo ?_
 ·refine bn (σ:=List ay×List ay) (fun s=>[(0,AV.v k0 (D.sl 5 (zg ay.e l)),none),(1,AV.v k1 (D.sl 5 (zg ay.e l)),none),(5,AV.v false (di (s.1.length:Nat)),none)]) (fun s=>l=s.1++s.2) (fun s=>s.2.length) ([],l) (by simp) rfl ?_;rintro ⟨pre,rest⟩ h1;simp only at h1;subst h1;simp only [zb,za] at h;rcases rest with _|⟨⟨fk,cL,bh,mH,mI⟩,rest⟩
  ·unfold Hx;refine Ud Oo ?_;all_goals simp [FW]
  ·unfold Hx;simp only [za] at h;have hw:=Wi ((pre.length:Int)+1);refine Ud hw ?_;repeat intro hc
   all_goals exact ⟨(pre++[⟨fk,cL,bh,mH,mI⟩],rest),by simp,by simp,by simp⟩
@[simp] theorem t243 (g_:ae.length≤1048576):Gw TT 243 [.st [.ro false (di fM),.ro k0 (.sl 5 (ae.map ay.e))]]=some (.st [.ro false (di fM),.own (.sl 5 (ae.map ay.e))],[]):=by
 refine Ga GM ER ?_;unfold ER;refine Ua g_ ?_;all_goals simp [GM]
@[simp] theorem t151 (c5:ae.length≤1048576):Gw TT 151 [.st [.ro false (di fM),.ro k0 (.sl 5 (ae.map ay.e))],.st [.ro false (di fM),.ro k1 (.sl 5 (ae.map ay.e))]]=some (vb true,[]):=by
 refine Ga FP DY ?_;unfold DY;refine Ua c5 ?_;all_goals simp [FP]
@[simp] theorem t253 (ae:List af) (g_:ae.length≤1048576) (ny:af.aq ae):Gw TT 253 [.st [.ro false (di tE),.ro k0 (.sl 3 (ae.map af.e))]]=some (.st [.ro false (di tE),.own (.sl 3 (ae.map af.e))],[]):=by
 refine Ga GX E3 ?_;unfold E3;refine Ua (J2 g_ ny) ?_;all_goals simp [GX]
@[simp] theorem t254 (l:List aC) (h:l.length≤1048576) (hs:aC.aq l):Gw TT 254 [.one (.ro k0 (.sl 2 (l.map aC.e)))]=some (.one (.own (.sl 2 (l.map aC.e))),[]):=by
 refine Ga GY E4 ?_;unfold E4;refine Ud Oo ?_;repeat intro hc
 ·refine bn (σ:=List aC×List aC) (fun s=>[(0,AV.v k0 (D.sl 2 (zg aC.e l)),none),(3,AV.pl 3 0 [],some (Rt.aR [C.own (D.sl 2 (s.1.map aC.e++zj s.2.length [.int .i64 0,.sl 3 []]))])),(4,AV.v false (di (s.1.length:Nat)),none)]) (fun s=>l=s.1++s.2) (fun s=>s.2.length) ([],l) (by simp) rfl ?_;rintro ⟨pre,rest⟩ h1;simp only at h1;subst h1;simp only [zb,za] at h;rcases rest with _|⟨⟨fR,ax⟩,rest⟩
  ·unfold H8;refine Ud Oo ?_;all_goals simp [GY]
  ·unfold H8;simp only [za] at h;have hw:=Wi ((pre.length:Int)+1);have hd:=hs ⟨fR,ax⟩ (by simp);simp only [aC.sm,and_assoc] at hd;obtain ⟨j5,nz⟩:=hd;refine Ud (J4 @oz hw j5 nz) ?_;repeat intro hc
   all_goals exact ⟨(pre++[⟨fR,ax⟩],rest),by simp,by simp,by simp⟩
@[simp] theorem t161 (ae:List af) (c5:ae.length≤1048576) (dU:af.aq ae):Gw TT 161 [.st [.ro false (di tE),.ro k0 (.sl 3 (ae.map af.e))],.st [.ro false (di tE),.ro k1 (.sl 3 (ae.map af.e))]]=some (vb true,[]):=by
 refine Ga F0 D8 ?_;unfold D8;refine Ua (J2 c5 dU) ?_;all_goals simp [F0]
@[simp] theorem t162 (l:List aC) (h:l.length≤1048576) (hs:aC.aq l):Gw TT 162 [.one (.ro k0 (.sl 2 (l.map aC.e))),.one (.ro k1 (.sl 2 (l.map aC.e)))]=some (vb true,[]):=by
 refine Ga F1 D9 ?_;unfold D9;refine Ud Oo ?_
 ·refine bn (σ:=List aC×List aC) (fun s=>[(0,AV.v k0 (D.sl 2 (zg aC.e l)),none),(1,AV.v k1 (D.sl 2 (zg aC.e l)),none),(5,AV.v false (di (s.1.length:Nat)),none)]) (fun s=>l=s.1++s.2) (fun s=>s.2.length) ([],l) (by simp) rfl ?_;rintro ⟨pre,rest⟩ h1;simp only at h1;subst h1;simp only [zb,za] at h;rcases rest with _|⟨⟨fR,ax⟩,rest⟩
  ·unfold Hz;refine Ud Oo ?_;all_goals simp [F1]
  ·unfold Hz;simp only [za] at h;have hw:=Wi ((pre.length:Int)+1);have hd:=hs ⟨fR,ax⟩ (by simp);simp only [aC.sm,and_assoc] at hd;obtain ⟨j5,nz⟩:=hd;refine Ud (J3 hw j5 nz) ?_;repeat intro hc
   all_goals exact ⟨(pre++[⟨fR,ax⟩],rest),by simp,by simp,by simp⟩
@[simp] theorem t237 (ae:List aC) (g_:ae.length≤1048576) (ny:aC.aq ae):Gw TT 237 [.st [.ro false (di kz),.ro k0 (.sl 2 (ae.map aC.e))]]=some (.st [.ro false (di kz),.own (.sl 2 (ae.map aC.e))],[]):=by
 refine Ga GG EK ?_;unfold EK;refine Ua (J2 g_ ny) ?_;all_goals simp [GG]
@[simp] theorem t145 (ae:List aC) (c5:ae.length≤1048576) (dU:aC.aq ae):Gw TT 145 [.st [.ro false (di kz),.ro k0 (.sl 2 (ae.map aC.e))],.st [.ro false (di kz),.ro k1 (.sl 2 (ae.map aC.e))]]=some (vb true,[]):=by
 refine Ga FJ DS ?_;unfold DS;refine Ua (J2 c5 dU) ?_;all_goals simp [FJ]
@[simp] theorem t234 (De:fj.length≤1048576) (Dn:aC.aq fj) (Df:gW.length≤1048576):Gw TT 234 [.st [.ro false (di jg),.ro false (di ca),.ro false (di oC),.ro k0 (.sl 2 (fj.map aC.e)),.ro k0 (.sl 1 (gW.map eb))]]=some (.st [.ro false (di jg),.ro false (di ca),.ro false (di oC),.own (.sl 2 (fj.map aC.e)),.own (.sl 1 (gW.map eb))],[]):=by
 refine Ga GC EH ?_;unfold EH;refine Ua (J3 De Dn Df) ?_;all_goals simp [GC]
@[simp] theorem t235 (l:List ao) (h:l.length≤1048576) (hs:ao.aq l):Gw TT 235 [.one (.ro k0 (.sl 5 (l.map ao.e)))]=some (.one (.own (.sl 5 (l.map ao.e))),[]):=by
 refine Ga GD EI ?_;unfold EI;refine Ud Oo ?_;repeat intro hc
 ·refine bn (σ:=List ao×List ao) (fun s=>[(0,AV.v k0 (D.sl 5 (zg ao.e l)),none),(3,AV.pl 3 0 [],some (Rt.aR [C.own (D.sl 5 (s.1.map ao.e++zj s.2.length [.int .i64 0,.int .i64 0,.int .i64 0,.sl 2 [],.sl 1 []]))])),(4,AV.v false (di (s.1.length:Nat)),none)]) (fun s=>l=s.1++s.2) (fun s=>s.2.length) ([],l) (by simp) rfl ?_;rintro ⟨pre,rest⟩ h1;simp only at h1;subst h1;simp only [zb,za] at h;rcases rest with _|⟨⟨cL,bh,⟨fN,dX⟩,ec⟩,rest⟩
  ·unfold HY;refine Ud Oo ?_;all_goals simp [GD]
  ·unfold HY;simp only [za] at h;have hw:=Wi ((pre.length:Int)+1);have hd:=hs ⟨cL,bh,⟨fN,dX⟩,ec⟩ (by simp);simp only [ao.sm,fm.sm,and_assoc] at hd;obtain ⟨Dg,Dp,Dh⟩:=hd;refine Ud (J5 @oz hw Dg Dp Dh) ?_;repeat intro hc
   all_goals exact ⟨(pre++[⟨cL,bh,⟨fN,dX⟩,ec⟩],rest),by simp,by simp,by simp⟩
@[simp] theorem t142 (vw:fj.length≤1048576) (vP:aC.aq fj) (vC:gW.length≤1048576):Gw TT 142 [.st [.ro false (di jg),.ro false (di ca),.ro false (di oC),.ro k0 (.sl 2 (fj.map aC.e)),.ro k0 (.sl 1 (gW.map eb))],.st [.ro false (di jg),.ro false (di ca),.ro false (di oC),.ro k1 (.sl 2 (fj.map aC.e)),.ro k1 (.sl 1 (gW.map eb))]]=some (vb true,[]):=by
 refine Ga FG DP ?_;unfold DP;refine Ua (J3 vw vP vC) ?_;all_goals simp [FG]
@[simp] theorem t143 (l:List ao) (h:l.length≤1048576) (hs:ao.aq l):Gw TT 143 [.one (.ro k0 (.sl 5 (l.map ao.e))),.one (.ro k1 (.sl 5 (l.map ao.e)))]=some (vb true,[]):=by
 refine Ga FH DQ ?_;unfold DQ;refine Ud Oo ?_
 ·refine bn (σ:=List ao×List ao) (fun s=>[(0,AV.v k0 (D.sl 5 (zg ao.e l)),none),(1,AV.v k1 (D.sl 5 (zg ao.e l)),none),(5,AV.v false (di (s.1.length:Nat)),none)]) (fun s=>l=s.1++s.2) (fun s=>s.2.length) ([],l) (by simp) rfl ?_;rintro ⟨pre,rest⟩ h1;simp only at h1;subst h1;simp only [zb,za] at h;rcases rest with _|⟨⟨cL,bh,⟨fN,dX⟩,ec⟩,rest⟩
  ·unfold Hr;refine Ud Oo ?_;all_goals simp [FH]
  ·unfold Hr;simp only [za] at h;have hw:=Wi ((pre.length:Int)+1);have hd:=hs ⟨cL,bh,⟨fN,dX⟩,ec⟩ (by simp);simp only [ao.sm,fm.sm,and_assoc] at hd;obtain ⟨Dg,Dp,Dh⟩:=hd;refine Ud (J4 hw Dg Dp Dh) ?_;repeat intro hc
   all_goals exact ⟨(pre++[⟨cL,bh,⟨fN,dX⟩,ec⟩],rest),by simp,by simp,by simp⟩
@[simp] theorem t238 (Rj:eM.length≤1048576):Gw TT 238 [.st [.ro k0 (.sl 1 (eM.map ei)),.ro false (di qw),.ro false (di qv)]]=some (.st [.own (.sl 1 (eM.map ei)),.ro false (di qw),.ro false (di qv)],[]):=by
 refine Ga GH EL ?_;unfold EL;refine Ua Rj ?_;all_goals simp [GH]
@[simp] theorem t146 (vz:eM.length≤1048576):Gw TT 146 [.st [.ro k0 (.sl 1 (eM.map ei)),.ro false (di qw),.ro false (di qv)],.st [.ro k1 (.sl 1 (eM.map ei)),.ro false (di qw),.ro false (di qv)]]=some (vb true,[]):=by
 refine Ga FK DT ?_;unfold DT;refine Ua vz ?_;all_goals simp [FK]
def BF (x:aa):Prop:=∀k0:Bool,x.sm→Gw TT 245 [.st [.ro false (di x.Kind),.ro false (di x.eU),.ro false (di x.Op),.ro false (di x.V.Ty),.ro false (di x.V.N),.ro false (.str x.V.S),.ro k0 (.sl 7 (x.L.map aa.e))]]=some (.st [.ro false (di x.Kind),.ro false (di x.eU),.ro false (di x.Op),.ro false (di x.V.Ty),.ro false (di x.V.N),.ro false (.str x.V.S),.own (.sl 7 (x.L.map aa.e))],[])
def I6 (l:List aa):Prop:=∀k0:Bool,l.length≤1048576→aa.aq l→Gw TT 246 [.one (.ro k0 (.sl 7 (l.map aa.e)))]=some (.one (.own (.sl 7 (l.map aa.e))),[])
theorem I7 (l:List aa) (IH:∀y∈l,BF y):I6 l:=by
 intro k0 h hs;refine Ga GP EU ?_;unfold EU;refine Ud Oo ?_;repeat intro hc
 ·refine bn (σ:=List aa×List aa) (fun s=>[(0,AV.v k0 (D.sl 7 (zg aa.e l)),none),(3,AV.pl 3 0 [],some (Rt.aR [C.own (D.sl 7 (s.1.map aa.e++zj s.2.length [.int .i64 0,.int .i64 0,.int .i64 0,.int .i64 0,.int .i64 0,.str ⟨#[]⟩,.sl 7 []]))])),(4,AV.v false (di (s.1.length:Nat)),none)]) (fun s=>l=s.1++s.2) (fun s=>s.2.length) ([],l) (by simp) rfl ?_;rintro ⟨pre,rest⟩ h1;simp only at h1;subst h1;simp only [zb,za] at h;rcases rest with _|⟨⟨bh,dI,a_,⟨dL,dJ,dK⟩,ax⟩,rest⟩
  ·unfold H5;refine Ud Oo ?_;all_goals simp [GP]
  ·unfold H5;simp only [za] at h;have hw:=Wi ((pre.length:Int)+1);have hd:=aa.tn hs ⟨bh,dI,a_,⟨dL,dJ,dK⟩,ax⟩ (by simp);simp only [aa.fL,af.sm,and_assoc] at hd;obtain ⟨Dm,j5,nz⟩:=hd;have ih:=IH ⟨bh,dI,a_,⟨dL,dJ,dK⟩,ax⟩ (by simp) k0 (aa.tn hs ⟨bh,dI,a_,⟨dL,dJ,dK⟩,ax⟩ (by simp));simp only at ih;refine Ud (J6 @oz hw ih Dm j5 nz) ?_;repeat intro hc
   all_goals exact ⟨(pre++[⟨bh,dI,a_,⟨dL,dJ,dK⟩,ax⟩],rest),by simp,by simp,by simp⟩
theorem MY (IH:I6 x.L):BF x:=by
 intro k0 hx;obtain ⟨ca,dA,cb,⟨c3,cZ,bO⟩,ae⟩:=x;simp only [aa.fL,af.sm,and_assoc] at hx;obtain ⟨wC,g_,ny⟩:=hx;have ih:=IH k0 g_ ny;simp only at ih;refine Ga GO ET ?_;unfold ET;refine Ua ih ?_;all_goals simp [GO]
theorem BG (x:aa):BF x:=
 MY x (I7 x.L fun y hy=>BG y)
termination_by zi x
decreasing_by
 have h1:=zk hy;have h2:zi x.L<zi x:=by cases x;simp;omega
 omega
@[simp] theorem t245 (ae:List aa) (g_:ae.length≤1048576) (ny:aa.aq ae) (hv:bO.size≤1048576):Gw TT 245 [.st [.ro false (di ca),.ro false (di dA),.ro false (di cb),.ro false (di c3),.ro false (di cZ),.ro false (.str bO),.ro k0 (.sl 7 (ae.map aa.e))]]=some (.st [.ro false (di ca),.ro false (di dA),.ro false (di cb),.ro false (di c3),.ro false (di cZ),.ro false (.str bO),.own (.sl 7 (ae.map aa.e))],[]):=BG ⟨ca,dA,cb,⟨c3,cZ,bO⟩,ae⟩ k0 (by simp only [aa.fL,af.sm,and_assoc];exact ⟨hv,g_,ny⟩)
@[simp] theorem t246 (l:List aa) (h:l.length≤1048576) (hs:aa.aq l):Gw TT 246 [.one (.ro k0 (.sl 7 (l.map aa.e)))]=some (.one (.own (.sl 7 (l.map aa.e))),[]):=I7 l (fun y _=>BG y) k0 h hs
def Bo (x:aa):Prop:=∀k0 k1:Bool,x.sm→Gw TT 153 [.st [.ro false (di x.Kind),.ro false (di x.eU),.ro false (di x.Op),.ro false (di x.V.Ty),.ro false (di x.V.N),.ro false (.str x.V.S),.ro k0 (.sl 7 (x.L.map aa.e))],.st [.ro false (di x.Kind),.ro false (di x.eU),.ro false (di x.Op),.ro false (di x.V.Ty),.ro false (di x.V.N),.ro false (.str x.V.S),.ro k1 (.sl 7 (x.L.map aa.e))]]=some (vb true,[])
def IV (l:List aa):Prop:=∀k0 k1:Bool,l.length≤1048576→aa.aq l→Gw TT 154 [.one (.ro k0 (.sl 7 (l.map aa.e))),.one (.ro k1 (.sl 7 (l.map aa.e)))]=some (vb true,[])
theorem IW (l:List aa) (IH:∀y∈l,Bo y):IV l:=by
 intro k0 k1 h hs;refine Ga FT D1 ?_;unfold D1;refine Ud Oo ?_
 ·refine bn (σ:=List aa×List aa) (fun s=>[(0,AV.v k0 (D.sl 7 (zg aa.e l)),none),(1,AV.v k1 (D.sl 7 (zg aa.e l)),none),(5,AV.v false (di (s.1.length:Nat)),none)]) (fun s=>l=s.1++s.2) (fun s=>s.2.length) ([],l) (by simp) rfl ?_;rintro ⟨pre,rest⟩ h1;simp only at h1;subst h1;simp only [zb,za] at h;rcases rest with _|⟨⟨bh,dI,a_,⟨dL,dJ,dK⟩,ax⟩,rest⟩
  ·unfold Hw;refine Ud Oo ?_;all_goals simp [FT]
  ·unfold Hw;simp only [za] at h;have hw:=Wi ((pre.length:Int)+1);have hd:=aa.tn hs ⟨bh,dI,a_,⟨dL,dJ,dK⟩,ax⟩ (by simp);simp only [aa.fL,af.sm,and_assoc] at hd;obtain ⟨Dm,j5,nz⟩:=hd;have ih:=IH ⟨bh,dI,a_,⟨dL,dJ,dK⟩,ax⟩ (by simp) k0 k1 (aa.tn hs ⟨bh,dI,a_,⟨dL,dJ,dK⟩,ax⟩ (by simp));simp only at ih;refine Ud (J5 hw ih Dm j5 nz) ?_;repeat intro hc
   all_goals exact ⟨(pre++[⟨bh,dI,a_,⟨dL,dJ,dK⟩,ax⟩],rest),by simp,by simp,by simp⟩
theorem ML (IH:IV x.L):Bo x:=by
 intro k0 k1 hx;obtain ⟨ca,dA,cb,⟨c3,cZ,bO⟩,ae⟩:=x;simp only [aa.fL,af.sm,and_assoc] at hx;obtain ⟨wC,g_,ny⟩:=hx;have ih:=IH k0 k1 g_ ny;simp only at ih;refine Ga FR D0 ?_;unfold D0;refine Ua ih ?_;all_goals simp [FR]
theorem Bp (x:aa):Bo x:=
 ML x (IW x.L fun y hy=>Bp y)
termination_by zi x
decreasing_by
 have h1:=zk hy;have h2:zi x.L<zi x:=by cases x;simp;omega
 omega
@[simp] theorem t153 (ae:List aa) (c5:ae.length≤1048576) (dU:aa.aq ae) (hv:bO.size≤1048576):Gw TT 153 [.st [.ro false (di ca),.ro false (di dA),.ro false (di cb),.ro false (di c3),.ro false (di cZ),.ro false (.str bO),.ro k0 (.sl 7 (ae.map aa.e))],.st [.ro false (di ca),.ro false (di dA),.ro false (di cb),.ro false (di c3),.ro false (di cZ),.ro false (.str bO),.ro k1 (.sl 7 (ae.map aa.e))]]=some (vb true,[]):=Bp ⟨ca,dA,cb,⟨c3,cZ,bO⟩,ae⟩ k0 k1 (by simp only [aa.fL,af.sm,and_assoc];exact ⟨hv,c5,dU⟩)
@[simp] theorem t154 (l:List aa) (h:l.length≤1048576) (hs:aa.aq l):Gw TT 154 [.one (.ro k0 (.sl 7 (l.map aa.e))),.one (.ro k1 (.sl 7 (l.map aa.e)))]=some (vb true,[]):=IW l (fun y _=>Bp y) k0 k1 h hs
@[simp] theorem t247 (wy:gX.size≤1048576) (wx:eC.length≤1048576) (wI:aa.aq eC) (wv:fc.length≤1048576):Gw TT 247 [.st [.ro false (di ca),.ro false (di lT),.ro false (di lS),.ro false (di lU),.ro false (di lW),.ro false (di lV),.ro false (.str gX),.ro k0 (.sl 7 (eC.map aa.e)),.ro false (di dA),.ro k0 (.sl 1 (fc.map ei))]]=some (.st [.ro false (di ca),.ro false (di lT),.ro false (di lS),.ro false (di lU),.ro false (di lW),.ro false (di lV),.ro false (.str gX),.own (.sl 7 (eC.map aa.e)),.ro false (di dA),.own (.sl 1 (fc.map ei))],[]):=by
 refine Ga GQ EV ?_;unfold EV;refine Ua (J4 wy wx wI wv) ?_;all_goals simp [GQ]
@[simp] theorem t155 (vI:gX.size≤1048576) (vH:eC.length≤1048576) (vS:aa.aq eC) (vF:fc.length≤1048576):Gw TT 155 [.st [.ro false (di ca),.ro false (di lT),.ro false (di lS),.ro false (di lU),.ro false (di lW),.ro false (di lV),.ro false (.str gX),.ro k0 (.sl 7 (eC.map aa.e)),.ro false (di dA),.ro k0 (.sl 1 (fc.map ei))],.st [.ro false (di ca),.ro false (di lT),.ro false (di lS),.ro false (di lU),.ro false (di lW),.ro false (di lV),.ro false (.str gX),.ro k1 (.sl 7 (eC.map aa.e)),.ro false (di dA),.ro k1 (.sl 1 (fc.map ei))]]=some (vb true,[]):=by
 refine Ga FU D2 ?_;unfold D2;refine Ua (J4 vI vH vS vF) ?_;all_goals simp [FU]
@[simp] theorem t250 (wB:eE.length≤1048576) (wK:ak.aq eE):Gw TT 250 [.st [.ro k0 (.sl 2 (eE.map ak.e)),.ro false (di ie),.ro false (.bool lP),.ro false (di c3),.ro false (di cZ),.ro false (.str bO)]]=some (.st [.own (.sl 2 (eE.map ak.e)),.ro false (di ie),.ro false (.bool lP),.ro false (di c3),.ro false (di cZ),.ro false (.str bO)],[]):=by
 refine Ga GU EY ?_;unfold EY;refine Ua (J2 wB wK) ?_;all_goals simp [GU]
@[simp] theorem t158 (vL:eE.length≤1048576) (vU:ak.aq eE):Gw TT 158 [.st [.ro k0 (.sl 2 (eE.map ak.e)),.ro false (di ie),.ro false (.bool lP),.ro false (di c3),.ro false (di cZ),.ro false (.str bO)],.st [.ro k1 (.sl 2 (eE.map ak.e)),.ro false (di ie),.ro false (.bool lP),.ro false (di c3),.ro false (di cZ),.ro false (.str bO)]]=some (vb true,[]):=by
 refine Ga FX D5 ?_;unfold D5;refine Ua (J2 vL vU) ?_;all_goals simp [FX]
@[simp] theorem t255 (lu:bq.length≤1048576) (lx:af.aq bq) (lr:dq.size≤1048576) (lq:bI.length≤1048576) (lv:aa.aq bI) (lp:bT.length≤1048576) (g_:ae.length≤1048576) (wu:eB.length≤1048576) (wH:ak.aq eB):Gw TT 255 [.st [.ro false (di cb),.ro false (di oH),.ro false (di oD),.ro k0 (.sl 3 (bq.map af.e)),.ro false (di dW),.ro false (di eO),.ro false (di eQ),.ro false (di eP),.ro false (di eR),.ro false (di eT),.ro false (di eS),.ro false (.str dq),.ro k0 (.sl 7 (bI.map aa.e)),.ro false (di eN),.ro k0 (.sl 1 (bT.map ei)),.ro false (di oI),.ro false (di fM),.ro k0 (.sl 5 (ae.map ay.e)),.ro false (di oE),.ro false (di oF),.ro false (di eG),.ro false (di kx),.ro false (di oG),.ro false (.bool oJ),.ro k0 (.sl 2 (eB.map ak.e))]]=some (.st [.ro false (di cb),.ro false (di oH),.ro false (di oD),.own (.sl 3 (bq.map af.e)),.ro false (di dW),.ro false (di eO),.ro false (di eQ),.ro false (di eP),.ro false (di eR),.ro false (di eT),.ro false (di eS),.ro false (.str dq),.own (.sl 7 (bI.map aa.e)),.ro false (di eN),.own (.sl 1 (bT.map ei)),.ro false (di oI),.ro false (di fM),.own (.sl 5 (ae.map ay.e)),.ro false (di oE),.ro false (di oF),.ro false (di eG),.ro false (di kx),.ro false (di oG),.ro false (.bool oJ),.own (.sl 2 (eB.map ak.e))],[]):=by
 refine Ga GZ E5 ?_;unfold E5;refine Ua (J8 lu lx lr lq lv lp g_ (J2 wu wH)) ?_;all_goals simp [GZ]
@[simp] theorem t256 (l:List au) (h:l.length≤1048576) (hs:au.aq l):Gw TT 256 [.one (.ro k0 (.sl 25 (l.map au.e)))]=some (.one (.own (.sl 25 (l.map au.e))),[]):=by
 refine Ga G0 E6 ?_;unfold E6;refine Ud Oo ?_;repeat intro hc
 ·refine bn (σ:=List au×List au) (fun s=>[(0,AV.v k0 (D.sl 25 (zg au.e l)),none),(3,AV.pl 3 0 [],some (Rt.aR [C.own (D.sl 25 (s.1.map au.e++zj s.2.length [.int .i64 0,.int .i64 0,.int .i64 0,.sl 3 [],.int .i64 0,.int .i64 0,.int .i64 0,.int .i64 0,.int .i64 0,.int .i64 0,.int .i64 0,.str ⟨#[]⟩,.sl 7 [],.int .i64 0,.sl 1 [],.int .i64 0,.int .i64 0,.sl 5 [],.int .i64 0,.int .i64 0,.int .i64 0,.int .i64 0,.int .i64 0,.bool false,.sl 2 []]))])),(4,AV.v false (di (s.1.length:Nat)),none)]) (fun s=>l=s.1++s.2) (fun s=>s.2.length) ([],l) (by simp) rfl ?_;rintro ⟨pre,rest⟩ h1;simp only at h1;subst h1;simp only [zb,za] at h;rcases rest with _|⟨⟨a_,fX,fP,aL,br,⟨cR,⟨cT,cS,cU,⟨cX,cV,cW⟩,aY⟩,cQ,a9⟩,gk,gn,ax,fQ,fT,cY,dO,fW,gp,ed⟩,rest⟩
  ·unfold H9;refine Ud Oo ?_;all_goals simp [G0]
  ·unfold H9;simp only [za] at h;have hw:=Wi ((pre.length:Int)+1);have hd:=hs ⟨a_,fX,fP,aL,br,⟨cR,⟨cT,cS,cU,⟨cX,cV,cW⟩,aY⟩,cQ,a9⟩,gk,gn,ax,fQ,fT,cY,dO,fW,gp,ed⟩ (by simp);simp only [au.sm,dC.sm,aa.fL,af.sm,and_assoc] at hd;obtain ⟨sI,sK,sH,sG,sJ,sF,j5,Di,Dq⟩:=hd;refine Ud (J8 @oz hw sI sK sH sG sJ (J4 sF j5 Di Dq)) ?_;repeat intro hc
   all_goals exact ⟨(pre++[⟨a_,fX,fP,aL,br,⟨cR,⟨cT,cS,cU,⟨cX,cV,cW⟩,aY⟩,cQ,a9⟩,gk,gn,ax,fQ,fT,cY,dO,fW,gp,ed⟩],rest),by simp,by simp,by simp⟩
@[simp] theorem t163 (nq:bq.length≤1048576) (nx:af.aq bq) (np:dq.size≤1048576) (nm:bI.length≤1048576) (nv:aa.aq bI) (nk:bT.length≤1048576) (c5:ae.length≤1048576) (vD:eB.length≤1048576) (vR:ak.aq eB):Gw TT 163 [.st [.ro false (di cb),.ro false (di oH),.ro false (di oD),.ro k0 (.sl 3 (bq.map af.e)),.ro false (di dW),.ro false (di eO),.ro false (di eQ),.ro false (di eP),.ro false (di eR),.ro false (di eT),.ro false (di eS),.ro false (.str dq),.ro k0 (.sl 7 (bI.map aa.e)),.ro false (di eN),.ro k0 (.sl 1 (bT.map ei)),.ro false (di oI),.ro false (di fM),.ro k0 (.sl 5 (ae.map ay.e)),.ro false (di oE),.ro false (di oF),.ro false (di eG),.ro false (di kx),.ro false (di oG),.ro false (.bool oJ),.ro k0 (.sl 2 (eB.map ak.e))],.st [.ro false (di cb),.ro false (di oH),.ro false (di oD),.ro k1 (.sl 3 (bq.map af.e)),.ro false (di dW),.ro false (di eO),.ro false (di eQ),.ro false (di eP),.ro false (di eR),.ro false (di eT),.ro false (di eS),.ro false (.str dq),.ro k1 (.sl 7 (bI.map aa.e)),.ro false (di eN),.ro k1 (.sl 1 (bT.map ei)),.ro false (di oI),.ro false (di fM),.ro k1 (.sl 5 (ae.map ay.e)),.ro false (di oE),.ro false (di oF),.ro false (di eG),.ro false (di kx),.ro false (di oG),.ro false (.bool oJ),.ro k1 (.sl 2 (eB.map ak.e))]]=some (vb true,[]):=by
 refine Ga F2 D_ ?_;unfold D_;refine Ua (J8 nq nx np nm nv nk c5 (J2 vD vR)) ?_;all_goals simp [F2]
@[simp] theorem t164 (l:List au) (h:l.length≤1048576) (hs:au.aq l):Gw TT 164 [.one (.ro k0 (.sl 25 (l.map au.e))),.one (.ro k1 (.sl 25 (l.map au.e)))]=some (vb true,[]):=by
 refine Ga F3 D' ?_;unfold D';refine Ud Oo ?_
 ·refine bn (σ:=List au×List au) (fun s=>[(0,AV.v k0 (D.sl 25 (zg au.e l)),none),(1,AV.v k1 (D.sl 25 (zg au.e l)),none),(5,AV.v false (di (s.1.length:Nat)),none)]) (fun s=>l=s.1++s.2) (fun s=>s.2.length) ([],l) (by simp) rfl ?_;rintro ⟨pre,rest⟩ h1;simp only at h1;subst h1;simp only [zb,za] at h;rcases rest with _|⟨⟨a_,fX,fP,aL,br,⟨cR,⟨cT,cS,cU,⟨cX,cV,cW⟩,aY⟩,cQ,a9⟩,gk,gn,ax,fQ,fT,cY,dO,fW,gp,ed⟩,rest⟩
  ·unfold HA;refine Ud Oo ?_;all_goals simp [F3]
  ·unfold HA;simp only [za] at h;have hw:=Wi ((pre.length:Int)+1);have hd:=hs ⟨a_,fX,fP,aL,br,⟨cR,⟨cT,cS,cU,⟨cX,cV,cW⟩,aY⟩,cQ,a9⟩,gk,gn,ax,fQ,fT,cY,dO,fW,gp,ed⟩ (by simp);simp only [au.sm,dC.sm,aa.fL,af.sm,and_assoc] at hd;obtain ⟨sI,sK,sH,sG,sJ,sF,j5,Di,Dq⟩:=hd;refine Ud (J8 hw sI sK sH sG sJ sF (J3 j5 Di Dq)) ?_;repeat intro hc
   all_goals exact ⟨(pre++[⟨a_,fX,fP,aL,br,⟨cR,⟨cT,cS,cU,⟨cX,cV,cW⟩,aY⟩,cQ,a9⟩,gk,gn,ax,fQ,fT,cY,dO,fW,gp,ed⟩],rest),by simp,by simp,by simp⟩
@[simp] theorem t241 (lu:bq.length≤1048576) (lx:af.aq bq) (lr:dq.size≤1048576) (lq:bI.length≤1048576) (lv:aa.aq bI) (lp:bT.length≤1048576) (wz:eD.length≤1048576) (wJ:ak.aq eD) (wA:gD.size≤1048576):Gw TT 241 [.st [.ro false (di cb),.ro false (di lZ),.ro k0 (.sl 3 (bq.map af.e)),.ro false (di dW),.ro false (di eO),.ro false (di eQ),.ro false (di eP),.ro false (di eR),.ro false (di eT),.ro false (di eS),.ro false (.str dq),.ro k0 (.sl 7 (bI.map aa.e)),.ro false (di eN),.ro k0 (.sl 1 (bT.map ei)),.ro k0 (.sl 2 (eD.map ak.e)),.ro false (di kB),.ro false (.bool kA),.ro false (di kD),.ro false (di kC),.ro false (.str gD),.ro false (di lO),.ro false (di lY),.ro false (di lQ),.ro false (di lR),.ro false (di lX)]]=some (.st [.ro false (di cb),.ro false (di lZ),.own (.sl 3 (bq.map af.e)),.ro false (di dW),.ro false (di eO),.ro false (di eQ),.ro false (di eP),.ro false (di eR),.ro false (di eT),.ro false (di eS),.ro false (.str dq),.own (.sl 7 (bI.map aa.e)),.ro false (di eN),.own (.sl 1 (bT.map ei)),.own (.sl 2 (eD.map ak.e)),.ro false (di kB),.ro false (.bool kA),.ro false (di kD),.ro false (di kC),.ro false (.str gD),.ro false (di lO),.ro false (di lY),.ro false (di lQ),.ro false (di lR),.ro false (di lX)],[]):=by
 refine Ga GK EO ?_;unfold EO;refine Ua (J8 lu lx lr lq lv lp wz (J2 wJ wA)) ?_;all_goals simp [GK]
@[simp] theorem t242 (l:List an) (h:l.length≤1048576) (hs:an.aq l):Gw TT 242 [.one (.ro k0 (.sl 25 (l.map an.e)))]=some (.one (.own (.sl 25 (l.map an.e))),[]):=by
 refine Ga GL EP ?_;unfold EP;refine Ud Oo ?_;repeat intro hc
 ·refine bn (σ:=List an×List an) (fun s=>[(0,AV.v k0 (D.sl 25 (zg an.e l)),none),(3,AV.pl 3 0 [],some (Rt.aR [C.own (D.sl 25 (s.1.map an.e++zj s.2.length [.int .i64 0,.int .i64 0,.sl 3 [],.int .i64 0,.int .i64 0,.int .i64 0,.int .i64 0,.int .i64 0,.int .i64 0,.int .i64 0,.str ⟨#[]⟩,.sl 7 [],.int .i64 0,.sl 1 [],.sl 2 [],.int .i64 0,.bool false,.int .i64 0,.int .i64 0,.str ⟨#[]⟩,.int .i64 0,.int .i64 0,.int .i64 0,.int .i64 0,.int .i64 0]))])),(4,AV.v false (di (s.1.length:Nat)),none)]) (fun s=>l=s.1++s.2) (fun s=>s.2.length) ([],l) (by simp) rfl ?_;rintro ⟨pre,rest⟩ h1;simp only at h1;subst h1;simp only [zb,za] at h;rcases rest with _|⟨⟨a_,gj,aL,br,⟨cR,⟨cT,cS,cU,⟨cX,cV,cW⟩,aY⟩,cQ,a9⟩,⟨dt,fZ,fY,⟨gf,f_,ga⟩⟩,fO,gh,fS,fU,gg⟩,rest⟩
  ·unfold H3;refine Ud Oo ?_;all_goals simp [GL]
  ·unfold H3;simp only [za] at h;have hw:=Wi ((pre.length:Int)+1);have hd:=hs ⟨a_,gj,aL,br,⟨cR,⟨cT,cS,cU,⟨cX,cV,cW⟩,aY⟩,cQ,a9⟩,⟨dt,fZ,fY,⟨gf,f_,ga⟩⟩,fO,gh,fS,fU,gg⟩ (by simp);simp only [an.sm,dC.sm,aa.fL,af.sm,eW.sm,and_assoc] at hd;obtain ⟨sI,sK,sH,sG,sJ,sF,Dj,Dr,Dk⟩:=hd;refine Ud (J8 @oz hw sI sK sH sG sJ (J4 sF Dj Dr Dk)) ?_;repeat intro hc
   all_goals exact ⟨(pre++[⟨a_,gj,aL,br,⟨cR,⟨cT,cS,cU,⟨cX,cV,cW⟩,aY⟩,cQ,a9⟩,⟨dt,fZ,fY,⟨gf,f_,ga⟩⟩,fO,gh,fS,fU,gg⟩],rest),by simp,by simp,by simp⟩
@[simp] theorem t149 (nq:bq.length≤1048576) (nx:af.aq bq) (np:dq.size≤1048576) (nm:bI.length≤1048576) (nv:aa.aq bI) (nk:bT.length≤1048576) (vJ:eD.length≤1048576) (vT:ak.aq eD) (vK:gD.size≤1048576):Gw TT 149 [.st [.ro false (di cb),.ro false (di lZ),.ro k0 (.sl 3 (bq.map af.e)),.ro false (di dW),.ro false (di eO),.ro false (di eQ),.ro false (di eP),.ro false (di eR),.ro false (di eT),.ro false (di eS),.ro false (.str dq),.ro k0 (.sl 7 (bI.map aa.e)),.ro false (di eN),.ro k0 (.sl 1 (bT.map ei)),.ro k0 (.sl 2 (eD.map ak.e)),.ro false (di kB),.ro false (.bool kA),.ro false (di kD),.ro false (di kC),.ro false (.str gD),.ro false (di lO),.ro false (di lY),.ro false (di lQ),.ro false (di lR),.ro false (di lX)],.st [.ro false (di cb),.ro false (di lZ),.ro k1 (.sl 3 (bq.map af.e)),.ro false (di dW),.ro false (di eO),.ro false (di eQ),.ro false (di eP),.ro false (di eR),.ro false (di eT),.ro false (di eS),.ro false (.str dq),.ro k1 (.sl 7 (bI.map aa.e)),.ro false (di eN),.ro k1 (.sl 1 (bT.map ei)),.ro k1 (.sl 2 (eD.map ak.e)),.ro false (di kB),.ro false (.bool kA),.ro false (di kD),.ro false (di kC),.ro false (.str gD),.ro false (di lO),.ro false (di lY),.ro false (di lQ),.ro false (di lR),.ro false (di lX)]]=some (vb true,[]):=by
 refine Ga FN DW ?_;unfold DW;refine Ua (J8 nq nx np nm nv nk vJ (J2 vT vK)) ?_;all_goals simp [FN]
@[simp] theorem t150 (l:List an) (h:l.length≤1048576) (hs:an.aq l):Gw TT 150 [.one (.ro k0 (.sl 25 (l.map an.e))),.one (.ro k1 (.sl 25 (l.map an.e)))]=some (vb true,[]):=by
 refine Ga FO DX ?_;unfold DX;refine Ud Oo ?_
 ·refine bn (σ:=List an×List an) (fun s=>[(0,AV.v k0 (D.sl 25 (zg an.e l)),none),(1,AV.v k1 (D.sl 25 (zg an.e l)),none),(5,AV.v false (di (s.1.length:Nat)),none)]) (fun s=>l=s.1++s.2) (fun s=>s.2.length) ([],l) (by simp) rfl ?_;rintro ⟨pre,rest⟩ h1;simp only at h1;subst h1;simp only [zb,za] at h;rcases rest with _|⟨⟨a_,gj,aL,br,⟨cR,⟨cT,cS,cU,⟨cX,cV,cW⟩,aY⟩,cQ,a9⟩,⟨dt,fZ,fY,⟨gf,f_,ga⟩⟩,fO,gh,fS,fU,gg⟩,rest⟩
  ·unfold Hu;refine Ud Oo ?_;all_goals simp [FO]
  ·unfold Hu;simp only [za] at h;have hw:=Wi ((pre.length:Int)+1);have hd:=hs ⟨a_,gj,aL,br,⟨cR,⟨cT,cS,cU,⟨cX,cV,cW⟩,aY⟩,cQ,a9⟩,⟨dt,fZ,fY,⟨gf,f_,ga⟩⟩,fO,gh,fS,fU,gg⟩ (by simp);simp only [an.sm,dC.sm,aa.fL,af.sm,eW.sm,and_assoc] at hd;obtain ⟨sI,sK,sH,sG,sJ,sF,Dj,Dr,Dk⟩:=hd;refine Ud (J8 hw sI sK sH sG sJ sF (J3 Dj Dr Dk)) ?_;repeat intro hc
   all_goals exact ⟨(pre++[⟨a_,gj,aL,br,⟨cR,⟨cT,cS,cU,⟨cX,cV,cW⟩,aY⟩,cQ,a9⟩,⟨dt,fZ,fY,⟨gf,f_,ga⟩⟩,fO,gh,fS,fU,gg⟩],rest),by simp,by simp,by simp⟩
@[simp] theorem t259 (iz:aH.length≤1048576) (iA:aO.length≤1048576) (iy:aK.length≤1048576) (iG:ao.aq aK) (iC:aE.length≤1048576) (iF:aZ.length≤1048576) (iD:ba.length≤1048576) (iE:az.length≤1048576) (gQ:au.aq az) (iB:aG.length≤1048576) (hD:an.aq aG):Gw TT 259 [.st [.ro k0 (.sl 1 (aH.map ei)),.ro false (di c9),.ro false (di c8),.ro false (di dk),.ro false (di dj),.ro false (di dh),.ro false (di c_),.ro k0 (.sl 5 (aO.map ay.e)),.ro k0 (.sl 5 (aK.map ao.e)),.ro k0 (.sl 1 (aE.map ei)),.ro k0 (.sl 3 (aZ.map aJ.e)),.ro k0 (.sl 1 (ba.map ei)),.ro k0 (.sl 25 (az.map au.e)),.ro k0 (.sl 25 (aG.map an.e))]]=some (.st [.own (.sl 1 (aH.map ei)),.ro false (di c9),.ro false (di c8),.ro false (di dk),.ro false (di dj),.ro false (di dh),.ro false (di c_),.own (.sl 5 (aO.map ay.e)),.own (.sl 5 (aK.map ao.e)),.own (.sl 1 (aE.map ei)),.own (.sl 3 (aZ.map aJ.e)),.own (.sl 1 (ba.map ei)),.own (.sl 25 (az.map au.e)),.own (.sl 25 (aG.map an.e))],[]):=by
 refine Ga G3 E9 ?_;unfold E9;refine Ua (J8 iz iA iy iG iC iF iD (J4 iE gQ iB hD)) ?_;all_goals simp [G3]
@[simp] theorem t167 (vu:aH.length≤1048576) (vA:aO.length≤1048576) (vt:aK.length≤1048576) (vO:ao.aq aK) (vE:aE.length≤1048576) (vN:aZ.length≤1048576) (vG:ba.length≤1048576) (vM:az.length≤1048576) (vV:au.aq az) (vB:aG.length≤1048576) (vQ:an.aq aG):Gw TT 167 [.st [.ro k0 (.sl 1 (aH.map ei)),.ro false (di c9),.ro false (di c8),.ro false (di dk),.ro false (di dj),.ro false (di dh),.ro false (di c_),.ro k0 (.sl 5 (aO.map ay.e)),.ro k0 (.sl 5 (aK.map ao.e)),.ro k0 (.sl 1 (aE.map ei)),.ro k0 (.sl 3 (aZ.map aJ.e)),.ro k0 (.sl 1 (ba.map ei)),.ro k0 (.sl 25 (az.map au.e)),.ro k0 (.sl 25 (aG.map an.e))],.st [.ro k1 (.sl 1 (aH.map ei)),.ro false (di c9),.ro false (di c8),.ro false (di dk),.ro false (di dj),.ro false (di dh),.ro false (di c_),.ro k1 (.sl 5 (aO.map ay.e)),.ro k1 (.sl 5 (aK.map ao.e)),.ro k1 (.sl 1 (aE.map ei)),.ro k1 (.sl 3 (aZ.map aJ.e)),.ro k1 (.sl 1 (ba.map ei)),.ro k1 (.sl 25 (az.map au.e)),.ro k1 (.sl 25 (aG.map an.e))]]=some (vb true,[]):=by
 refine Ga F6 Ec ?_;unfold Ec;refine Ua (J8 vu vA vt vO vE vN vG (J4 vM vV vB vQ)) ?_;all_goals simp [F6]
theorem t219 (h0:0≤left) (h1:left≤1048576) (hl:l.length≤9223372036854775807):
 ∃n,Gw TT 219 [.one (.ro k0 (.sl 1 (l.map ei))),vi left]=some (vi n,[])∧-1≤n∧n≤left∧(0≤n→l.length≤1048576):=by
 refine cj (F:=te) rfl rfl ?_;show Wp _ xA _ _;unfold xA;have g:=Wi (left-(l.length:Int));refine Uw g ?_ ?_;all_goals repeat intro hc
 ·exact ⟨-1,by simp [te],by omega,by omega,fun h=>absurd h (by omega)⟩
 ·exact ⟨left-(l.length:Int),by simp [te],by omega,by omega,fun _=>by omega⟩
theorem t212 (h0:0≤left) (h1:left≤1048576) (hl:l.length≤9223372036854775807):
 ∃n,Gw TT 212 [.one (.ro k0 (.sl 1 (l.map eb))),vi left]=some (vi n,[])∧-1≤n∧n≤left∧(0≤n→l.length≤1048576):=by
 refine cj (F:=s9) rfl rfl ?_;show Wp _ xt _ _;unfold xt;have g:=Wi (left-(l.length:Int));refine Uw g ?_ ?_;all_goals repeat intro hc
 ·exact ⟨-1,by simp [s9],by omega,by omega,fun h=>absurd h (by omega)⟩
 ·exact ⟨left-(l.length:Int),by simp [s9],by omega,by omega,fun _=>by omega⟩
theorem t231 (eG:ByteArray) (left:Int) (h0:0≤left) (h1:left≤1048576) (Q3:eG.size≤9223372036854775807):
 ∃n,Gw TT 231 [.st [.ro false (di tF),.ro false (di ie),.ro false (.str eG)],vi left]=some (vi n,[])∧-1≤n∧n≤left∧(0≤n→eG.size≤1048576):=by
 refine cj (F:=ti) rfl rfl ?_;show Wp _ xL _ _;unfold xL;have g1:=Wi (left-(eG.size:Int));refine Uw g1 ?_ ?_;all_goals repeat intro hc
 ·exact ⟨-1,by simp [ti],by omega,by omega,fun h=>absurd h (by omega)⟩
 ·exact ⟨left-(eG.size:Int),by simp [ti],by omega,by omega,fun _=>(by omega)⟩
theorem t232 (l:List af) (left:Int) (h0:0≤left) (h1:left≤1048576) (hl:l.length≤9223372036854775807) (aP:af.aV l):
 ∃n,Gw TT 232 [.one (.ro k0 (.sl 3 (l.map af.e))),vi left]=some (vi n,[])∧-1≤n∧n≤left∧(0≤n→l.length≤1048576∧af.aq l):=by
 refine cj (F:=qj) rfl rfl ?_;show Wp _ xM _ _;unfold xM;have g:=Wi (left-(l.length:Int));refine Ud g ?_ ?_;all_goals repeat intro hc
 ·exact ⟨-1,by simp [qj],by omega,by omega,fun h=>absurd h (by omega)⟩
 ·refine bn (σ:=List af×List af×Int) (fun s=>[(0,AV.v k0 (D.sl 3 (zg af.e l)),none),(1,AV.v false (di s.2.2),none),(5,AV.v false (di (s.1.length:Nat)),none)]) (fun s=>l=s.1++s.2.1∧0≤s.2.2∧s.2.2≤left-(l.length:Int)∧af.aq s.1) (fun s=>s.2.1.length) ([],l,left-(l.length:Int)) (by simp) ⟨rfl,by simp only;omega,by simp only;omega,fun y hy=>by simp at hy⟩ ?_;rintro ⟨pre,rest,lf⟩ ⟨h2,h3,h4,h5⟩;simp only at h2 h3 h4 h5;subst h2;simp only [zb,za] at hl h4 g;rcases rest with _|⟨⟨gl,fV,cY⟩,rest⟩
  ·unfold yc;refine Ud Oo ?_;simp only [ze] at h4;all_goals exact ⟨lf,by simp [qj],by omega,by omega,fun _=>⟨by simp;omega,by simpa using h5⟩⟩
  ·unfold yc;simp only [za] at hl h4;have hw:=Wi ((pre.length:Int)+1);have hd:=aP ⟨gl,fV,cY⟩ (by simp);simp only [af.ok,and_assoc] at hd;obtain ⟨QN,PW,QC,PI,C0⟩:=hd;obtain ⟨n1,g1,a1,b1,s1⟩:=t231 gl fV cY lf (by omega) (by omega) C0;refine Ud (J2 g1 hw) ?_ ?_;all_goals repeat intro hc
   ·exact ⟨-1,by simp [qj],by omega,by omega,fun h=>absurd h (by omega)⟩
   ·exact ⟨(pre++[⟨gl,fV,cY⟩],rest,n1),by simp,⟨by simp,by simp only;omega,by simp only [zb,za];omega,fun y hy=>by
     rcases zo.1 hy with hy|hy
     ·exact h5 y hy
     ·rw [zm.1 hy];simp only [af.sm,and_assoc]
      exact s1 (by omega)⟩,by simp⟩
theorem t225 (ae:List af) (left:Int) (h0:0≤left) (h1:left≤1048576) (c5:ae.length≤9223372036854775807) (dU:af.aV ae):
 ∃n,Gw TT 225 [.st [.ro false (di dW),.ro k0 (.sl 3 (ae.map af.e))],vi left]=some (vi n,[])∧-1≤n∧n≤left∧(0≤n→ae.length≤1048576∧af.aq ae):=by
 refine cj (F:=tg) rfl rfl ?_;show Wp _ xF _ _;unfold xF;obtain ⟨n1,g1,a1,b1,s1⟩:=t232 k0 ae left (by omega) (by omega) c5 dU;refine Uw g1 ?_ ?_;all_goals repeat intro hc
 ·exact ⟨-1,by simp [tg],by omega,by omega,fun h=>absurd h (by omega)⟩
 ·exact ⟨n1,by simp [tg],by omega,by omega,fun _=>⟨(s1 (by omega)).1,(s1 (by omega)).2⟩⟩
theorem t226 (l:List ak) (left:Int) (h0:0≤left) (h1:left≤1048576) (hl:l.length≤9223372036854775807) (aP:ak.aV l):
 ∃n,Gw TT 226 [.one (.ro k0 (.sl 2 (l.map ak.e))),vi left]=some (vi n,[])∧-1≤n∧n≤left∧(0≤n→l.length≤1048576∧ak.aq l):=by
 refine cj (F:=qg) rfl rfl ?_;show Wp _ xG _ _;unfold xG;have g:=Wi (left-(l.length:Int));refine Ud g ?_ ?_;all_goals repeat intro hc
 ·exact ⟨-1,by simp [qg],by omega,by omega,fun h=>absurd h (by omega)⟩
 ·refine bn (σ:=List ak×List ak×Int) (fun s=>[(0,AV.v k0 (D.sl 2 (zg ak.e l)),none),(1,AV.v false (di s.2.2),none),(5,AV.v false (di (s.1.length:Nat)),none)]) (fun s=>l=s.1++s.2.1∧0≤s.2.2∧s.2.2≤left-(l.length:Int)∧ak.aq s.1) (fun s=>s.2.1.length) ([],l,left-(l.length:Int)) (by simp) ⟨rfl,by simp only;omega,by simp only;omega,fun y hy=>by simp at hy⟩ ?_;rintro ⟨pre,rest,lf⟩ ⟨h2,h3,h4,h5⟩;simp only at h2 h3 h4 h5;subst h2;simp only [zb,za] at hl h4 g;rcases rest with _|⟨⟨br,ax⟩,rest⟩
  ·unfold x_;refine Ud Oo ?_;simp only [ze] at h4;all_goals exact ⟨lf,by simp [qg],by omega,by omega,fun _=>⟨by simp;omega,by simpa using h5⟩⟩
  ·unfold x_;simp only [za] at hl h4;have hw:=Wi ((pre.length:Int)+1);have hd:=aP ⟨br,ax⟩ (by simp);simp only [ak.ok,and_assoc] at hd;obtain ⟨vo,vl,nr,pG⟩:=hd;obtain ⟨n1,g1,a1,b1,s1⟩:=t225 k0 br ax lf (by omega) (by omega) nr pG;refine Ud (J2 g1 hw) ?_ ?_;all_goals repeat intro hc
   ·exact ⟨-1,by simp [qg],by omega,by omega,fun h=>absurd h (by omega)⟩
   ·exact ⟨(pre++[⟨br,ax⟩],rest,n1),by simp,⟨by simp,by simp only;omega,by simp only [zb,za];omega,fun y hy=>by
     rcases zo.1 hy with hy|hy
     ·exact h5 y hy
     ·rw [zm.1 hy];simp only [ak.sm,and_assoc]
      exact s1 (by omega)⟩,by simp⟩
theorem t215 (l:List aJ) (left:Int) (h0:0≤left) (h1:left≤1048576) (hl:l.length≤9223372036854775807):
 ∃n,Gw TT 215 [.one (.ro k0 (.sl 3 (l.map aJ.e))),vi left]=some (vi n,[])∧-1≤n∧n≤left∧(0≤n→l.length≤1048576):=by
 refine cj (F:=tc) rfl rfl ?_;show Wp _ xw _ _;unfold xw;have g:=Wi (left-(l.length:Int));refine Uw g ?_ ?_;all_goals repeat intro hc
 ·exact ⟨-1,by simp [tc],by omega,by omega,fun h=>absurd h (by omega)⟩
 ·exact ⟨left-(l.length:Int),by simp [tc],by omega,by omega,fun _=>by omega⟩
theorem t223 (l:List ay) (left:Int) (h0:0≤left) (h1:left≤1048576) (hl:l.length≤9223372036854775807):
 ∃n,Gw TT 223 [.one (.ro k0 (.sl 5 (l.map ay.e))),vi left]=some (vi n,[])∧-1≤n∧n≤left∧(0≤n→l.length≤1048576):=by
 refine cj (F:=tf) rfl rfl ?_;show Wp _ xD _ _;unfold xD;have g:=Wi (left-(l.length:Int));refine Uw g ?_ ?_;all_goals repeat intro hc
 ·exact ⟨-1,by simp [tf],by omega,by omega,fun h=>absurd h (by omega)⟩
 ·exact ⟨left-(l.length:Int),by simp [tf],by omega,by omega,fun _=>by omega⟩
theorem t218 (h0:0≤left) (h1:left≤1048576) (c5:ae.length≤9223372036854775807):
 ∃n,Gw TT 218 [.st [.ro false (di fM),.ro k0 (.sl 5 (ae.map ay.e))],vi left]=some (vi n,[])∧-1≤n∧n≤left∧(0≤n→ae.length≤1048576):=by
 refine cj (F:=td) rfl rfl ?_;show Wp _ xz _ _;unfold xz;obtain ⟨n1,g1,a1,b1,s1⟩:=t223 k0 ae left (by omega) (by omega) c5;refine Uw g1 ?_ ?_;all_goals repeat intro hc
 ·exact ⟨-1,by simp [td],by omega,by omega,fun h=>absurd h (by omega)⟩
 ·exact ⟨n1,by simp [td],by omega,by omega,fun _=>(s1 (by omega))⟩
theorem t227 (ae:List af) (left:Int) (h0:0≤left) (h1:left≤1048576) (c5:ae.length≤9223372036854775807) (dU:af.aV ae):
 ∃n,Gw TT 227 [.st [.ro false (di tE),.ro k0 (.sl 3 (ae.map af.e))],vi left]=some (vi n,[])∧-1≤n∧n≤left∧(0≤n→ae.length≤1048576∧af.aq ae):=by
 refine cj (F:=th) rfl rfl ?_;show Wp _ xH _ _;unfold xH;obtain ⟨n1,g1,a1,b1,s1⟩:=t232 k0 ae left (by omega) (by omega) c5 dU;refine Uw g1 ?_ ?_;all_goals repeat intro hc
 ·exact ⟨-1,by simp [th],by omega,by omega,fun h=>absurd h (by omega)⟩
 ·exact ⟨n1,by simp [th],by omega,by omega,fun _=>⟨(s1 (by omega)).1,(s1 (by omega)).2⟩⟩
theorem t228 (l:List aC) (left:Int) (h0:0≤left) (h1:left≤1048576) (hl:l.length≤9223372036854775807) (aP:aC.aV l):
 ∃n,Gw TT 228 [.one (.ro k0 (.sl 2 (l.map aC.e))),vi left]=some (vi n,[])∧-1≤n∧n≤left∧(0≤n→l.length≤1048576∧aC.aq l):=by
 refine cj (F:=qh) rfl rfl ?_;show Wp _ xI _ _;unfold xI;have g:=Wi (left-(l.length:Int));refine Ud g ?_ ?_;all_goals repeat intro hc
 ·exact ⟨-1,by simp [qh],by omega,by omega,fun h=>absurd h (by omega)⟩
 ·refine bn (σ:=List aC×List aC×Int) (fun s=>[(0,AV.v k0 (D.sl 2 (zg aC.e l)),none),(1,AV.v false (di s.2.2),none),(5,AV.v false (di (s.1.length:Nat)),none)]) (fun s=>l=s.1++s.2.1∧0≤s.2.2∧s.2.2≤left-(l.length:Int)∧aC.aq s.1) (fun s=>s.2.1.length) ([],l,left-(l.length:Int)) (by simp) ⟨rfl,by simp only;omega,by simp only;omega,fun y hy=>by simp at hy⟩ ?_;rintro ⟨pre,rest,lf⟩ ⟨h2,h3,h4,h5⟩;simp only at h2 h3 h4 h5;subst h2;simp only [zb,za] at hl h4 g;rcases rest with _|⟨⟨fR,ax⟩,rest⟩
  ·unfold ya;refine Ud Oo ?_;simp only [ze] at h4;all_goals exact ⟨lf,by simp [qh],by omega,by omega,fun _=>⟨by simp;omega,by simpa using h5⟩⟩
  ·unfold ya;simp only [za] at hl h4;have hw:=Wi ((pre.length:Int)+1);have hd:=aP ⟨fR,ax⟩ (by simp);simp only [aC.ok,and_assoc] at hd;obtain ⟨Qw,PB,nr,pG⟩:=hd;obtain ⟨n1,g1,a1,b1,s1⟩:=t227 k0 fR ax lf (by omega) (by omega) nr pG;refine Ud (J2 g1 hw) ?_ ?_;all_goals repeat intro hc
   ·exact ⟨-1,by simp [qh],by omega,by omega,fun h=>absurd h (by omega)⟩
   ·exact ⟨(pre++[⟨fR,ax⟩],rest,n1),by simp,⟨by simp,by simp only;omega,by simp only [zb,za];omega,fun y hy=>by
     rcases zo.1 hy with hy|hy
     ·exact h5 y hy
     ·rw [zm.1 hy];simp only [aC.sm,and_assoc]
      exact s1 (by omega)⟩,by simp⟩
theorem t213 (ae:List aC) (left:Int) (h0:0≤left) (h1:left≤1048576) (c5:ae.length≤9223372036854775807) (dU:aC.aV ae):
 ∃n,Gw TT 213 [.st [.ro false (di kz),.ro k0 (.sl 2 (ae.map aC.e))],vi left]=some (vi n,[])∧-1≤n∧n≤left∧(0≤n→ae.length≤1048576∧aC.aq ae):=by
 refine cj (F:=s_) rfl rfl ?_;show Wp _ xu _ _;unfold xu;obtain ⟨n1,g1,a1,b1,s1⟩:=t228 k0 ae left (by omega) (by omega) c5 dU;refine Uw g1 ?_ ?_;all_goals repeat intro hc
 ·exact ⟨-1,by simp [s_],by omega,by omega,fun h=>absurd h (by omega)⟩
 ·exact ⟨n1,by simp [s_],by omega,by omega,fun _=>⟨(s1 (by omega)).1,(s1 (by omega)).2⟩⟩
theorem t210 (h0:0≤left) (h1:left≤1048576) (vw:fj.length≤9223372036854775807) (vP:aC.aV fj) (vC:gW.length≤9223372036854775807):
 ∃n,Gw TT 210 [.st [.ro false (di jg),.ro false (di ca),.ro false (di oC),.ro k0 (.sl 2 (fj.map aC.e)),.ro k0 (.sl 1 (gW.map eb))],vi left]=some (vi n,[])∧-1≤n∧n≤left∧(0≤n→fj.length≤1048576∧aC.aq fj∧gW.length≤1048576):=by
 refine cj (F:=p_) rfl rfl ?_;show Wp _ xq _ _;unfold xq;obtain ⟨n1,g1,a1,b1,s1⟩:=t213 k0 oC fj left (by omega) (by omega) vw vP;refine Uw g1 ?_ ?_;all_goals repeat intro hc
 ·exact ⟨-1,by simp [p_],by omega,by omega,fun h=>absurd h (by omega)⟩
 obtain ⟨n2,g2,a2,b2,s2⟩:=t212 k0 gW n1 (by omega) (by omega) vC;refine Uw g2 ?_ ?_;all_goals repeat intro hc
 ·exact ⟨-1,by simp [p_],by omega,by omega,fun h=>absurd h (by omega)⟩
 ·exact ⟨n2,by simp [p_],by omega,by omega,fun _=>⟨(s1 (by omega)).1,(s1 (by omega)).2,(s2 (by omega))⟩⟩
theorem t211 (l:List ao) (left:Int) (h0:0≤left) (h1:left≤1048576) (hl:l.length≤9223372036854775807) (aP:ao.aV l):
 ∃n,Gw TT 211 [.one (.ro k0 (.sl 5 (l.map ao.e))),vi left]=some (vi n,[])∧-1≤n∧n≤left∧(0≤n→l.length≤1048576∧ao.aq l):=by
 refine cj (F:=qa) rfl rfl ?_;show Wp _ xr _ _;unfold xr;have g:=Wi (left-(l.length:Int));refine Ud g ?_ ?_;all_goals repeat intro hc
 ·exact ⟨-1,by simp [qa],by omega,by omega,fun h=>absurd h (by omega)⟩
 ·refine bn (σ:=List ao×List ao×Int) (fun s=>[(0,AV.v k0 (D.sl 5 (zg ao.e l)),none),(1,AV.v false (di s.2.2),none),(5,AV.v false (di (s.1.length:Nat)),none)]) (fun s=>l=s.1++s.2.1∧0≤s.2.2∧s.2.2≤left-(l.length:Int)∧ao.aq s.1) (fun s=>s.2.1.length) ([],l,left-(l.length:Int)) (by simp) ⟨rfl,by simp only;omega,by simp only;omega,fun y hy=>by simp at hy⟩ ?_;rintro ⟨pre,rest,lf⟩ ⟨h2,h3,h4,h5⟩;simp only at h2 h3 h4 h5;subst h2;simp only [zb,za] at hl h4 g;rcases rest with _|⟨⟨cL,bh,⟨fN,dX⟩,ec⟩,rest⟩
  ·unfold x7;refine Ud Oo ?_;simp only [ze] at h4;all_goals exact ⟨lf,by simp [qa],by omega,by omega,fun _=>⟨by simp;omega,by simpa using h5⟩⟩
  ·unfold x7;simp only [za] at hl h4;have hw:=Wi ((pre.length:Int)+1);have hd:=aP ⟨cL,bh,⟨fN,dX⟩,ec⟩ (by simp);simp only [ao.ok,fm.ok,and_assoc] at hd;obtain ⟨Qr,Py,QA,PG,Qo,Pw,CV,C2,CW,Q4⟩:=hd;obtain ⟨n1,g1,a1,b1,s1⟩:=t210 k0 cL bh fN dX ec lf (by omega) (by omega) CV C2 CW;refine Ud (J2 g1 hw) ?_ ?_;all_goals repeat intro hc
   ·exact ⟨-1,by simp [qa],by omega,by omega,fun h=>absurd h (by omega)⟩
   ·exact ⟨(pre++[⟨cL,bh,⟨fN,dX⟩,ec⟩],rest,n1),by simp,⟨by simp,by simp only;omega,by simp only [zb,za];omega,fun y hy=>by
     rcases zo.1 hy with hy|hy
     ·exact h5 y hy
     ·rw [zm.1 hy];simp only [ao.sm,fm.sm,and_assoc]
      exact s1 (by omega)⟩,by simp⟩
theorem t214 (h0:0≤left) (h1:left≤1048576) (vz:eM.length≤9223372036854775807):
 ∃n,Gw TT 214 [.st [.ro k0 (.sl 1 (eM.map ei)),.ro false (di qw),.ro false (di qv)],vi left]=some (vi n,[])∧-1≤n∧n≤left∧(0≤n→eM.length≤1048576):=by
 refine cj (F:=ta) rfl rfl ?_;show Wp _ xv _ _;unfold xv;obtain ⟨n1,g1,a1,b1,s1⟩:=t219 k0 eM left (by omega) (by omega) vz;refine Uw g1 ?_ ?_;all_goals repeat intro hc
 ·exact ⟨-1,by simp [ta],by omega,by omega,fun h=>absurd h (by omega)⟩
 ·exact ⟨n1,by simp [ta],by omega,by omega,fun _=>(s1 (by omega))⟩
def BA (x:aa):Prop:=∀(k0:Bool) (left:Int),0≤left→left≤1048576→x.ok→∃n,Gw TT 220 [.st [.ro false (di x.Kind),.ro false (di x.eU),.ro false (di x.Op),.ro false (di x.V.Ty),.ro false (di x.V.N),.ro false (.str x.V.S),.ro k0 (.sl 7 (x.L.map aa.e))],vi left]=some (vi n,[])∧-1≤n∧n≤left∧(0≤n→x.sm)
def I2 (l:List aa):Prop:=∀(k0:Bool) (left:Int),0≤left→left≤1048576→l.length≤9223372036854775807→aa.aV l→
 ∃n,Gw TT 221 [.one (.ro k0 (.sl 7 (l.map aa.e))),vi left]=some (vi n,[])∧-1≤n∧n≤left∧(0≤n→l.length≤1048576∧aa.aq l)
theorem BC (l:List aa) (IH:∀y∈l,BA y):I2 l:=by
 intro k0 left h0 h1 hl aP;refine cj (F:=qd) rfl rfl ?_;show Wp _ xB _ _;unfold xB;have g:=Wi (left-(l.length:Int));refine Ud g ?_ ?_;all_goals repeat intro hc
 ·exact ⟨-1,by simp [qd],by omega,by omega,fun h=>absurd h (by omega)⟩
 ·refine bn (σ:=List aa×List aa×Int) (fun s=>[(0,AV.v k0 (D.sl 7 (zg aa.e l)),none),(1,AV.v false (di s.2.2),none),(5,AV.v false (di (s.1.length:Nat)),none)]) (fun s=>l=s.1++s.2.1∧0≤s.2.2∧s.2.2≤left-(l.length:Int)∧aa.aq s.1) (fun s=>s.2.1.length) ([],l,left-(l.length:Int)) (by simp) ⟨rfl,by simp only;omega,by simp only;omega,by simp [aa.aq]⟩ ?_;rintro ⟨pre,rest,lf⟩ ⟨h2,h3,h4,h5⟩;simp only at h2 h3 h4 h5;subst h2;simp only [zb,za] at hl h4 g;rcases rest with _|⟨⟨bh,dI,a_,⟨dL,dJ,dK⟩,ax⟩,rest⟩
  ·unfold x9;refine Ud Oo ?_;simp only [ze] at h4;all_goals exact ⟨lf,by simp [qd],by omega,by omega,fun _=>⟨by simp;omega,by simpa using h5⟩⟩
  ·unfold x9;simp only [za] at hl h4;have hw:=Wi ((pre.length:Int)+1);obtain ⟨n1,g1,a1,b1,s1⟩:=IH ⟨bh,dI,a_,⟨dL,dJ,dK⟩,ax⟩ (by simp) k0 lf (by omega) (by omega) (aa.LK aP ⟨bh,dI,a_,⟨dL,dJ,dK⟩,ax⟩ (by simp));simp only at g1;refine Ud (J2 g1 hw) ?_ ?_;all_goals repeat intro hc
   ·exact ⟨-1,by simp [qd],by omega,by omega,fun h=>absurd h (by omega)⟩
   ·exact ⟨(pre++[⟨bh,dI,a_,⟨dL,dJ,dK⟩,ax⟩],rest,n1),by simp,⟨by simp,by simp only;omega,by simp only [zb,za];omega,by
     rw [aa.IB];intro y hy;rcases zo.1 hy with hy|hy
     ·exact aa.tn h5 y hy
     ·rw [zm.1 hy]
      exact s1 (by omega)⟩,by simp⟩
theorem MV (IH:I2 x.L):BA x:=by
 intro k0 left h0 h1 hx;obtain ⟨ca,dA,cb,⟨c3,cZ,bO⟩,ae⟩:=x;simp only [aa.ok_eq,af.ok,and_assoc] at hx;obtain ⟨aaI,aau,aaH,aat,aaJ,aav,aaL,aax,aaK,aaw,iT,c5,dU⟩:=hx;refine cj (F:=lE) rfl rfl ?_;show Wp _ sZ _ _;unfold sZ;obtain ⟨n1,g1,a1,b1,s1⟩:=t231 c3 cZ bO left (by omega) (by omega) iT;refine Uw g1 ?_ ?_;all_goals repeat intro hc
 ·exact ⟨-1,by simp [lE],by omega,by omega,fun h=>absurd h (by omega)⟩
 obtain ⟨n2,g2,a2,b2,s2⟩:=IH k0 n1 (by omega) (by omega) c5 dU;simp only at g2;refine Uw g2 ?_ ?_;all_goals repeat intro hc
 ·exact ⟨-1,by simp [lE],by omega,by omega,fun h=>absurd h (by omega)⟩
 ·exact ⟨n2,by simp [lE],by omega,by omega,fun _=>by simp only [aa.fL,af.sm,and_assoc];exact ⟨(s1 (by omega)),(s2 (by omega)).1,(s2 (by omega)).2⟩⟩
theorem BB (x:aa):BA x:=
 MV x (BC x.L fun y hy=>BB y)
termination_by zi x
decreasing_by
 have h1:=zk hy;have h2:zi x.L<zi x:=by cases x;simp;omega
 omega
theorem MW (h0:0≤left) (h1:left≤1048576) (hv:x.V.S.size≤9223372036854775807) (hL:x.L.length≤9223372036854775807) (hs:aa.aV x.L):
 ∃n,Gw TT 220 [.st [.ro false (di x.Kind),.ro false (di x.eU),.ro false (di x.Op),.ro false (di x.V.Ty),.ro false (di x.V.N),.ro false (.str x.V.S),.ro k0 (.sl 7 (x.L.map aa.e))],vi left]=some (vi n,[])∧-1≤n∧n≤left∧(0≤n→x.sm):=by
 have IH:=BC x.L fun y _=>BB y
 obtain ⟨ca,dA,cb,⟨c3,cZ,bO⟩,ae⟩:=x;have iT:=hv;have c5:=hL;have dU:=hs;simp only at iT c5 dU;refine cj (F:=lE) rfl rfl ?_;show Wp _ sZ _ _;unfold sZ;obtain ⟨n1,g1,a1,b1,s1⟩:=t231 c3 cZ bO left (by omega) (by omega) iT;refine Uw g1 ?_ ?_;all_goals repeat intro hc
 ·exact ⟨-1,by simp [lE],by omega,by omega,fun h=>absurd h (by omega)⟩
 obtain ⟨n2,g2,a2,b2,s2⟩:=IH k0 n1 (by omega) (by omega) c5 dU;simp only at g2;refine Uw g2 ?_ ?_;all_goals repeat intro hc
 ·exact ⟨-1,by simp [lE],by omega,by omega,fun h=>absurd h (by omega)⟩
 ·exact ⟨n2,by simp [lE],by omega,by omega,fun _=>by simp only [aa.fL,af.sm,and_assoc];exact ⟨(s1 (by omega)),(s2 (by omega)).1,(s2 (by omega)).2⟩⟩
theorem t220 (ae:List aa) (left:Int) (h0:0≤left) (h1:left≤1048576) (iT:bO.size≤9223372036854775807) (c5:ae.length≤9223372036854775807) (dU:aa.aV ae):
 ∃n,Gw TT 220 [.st [.ro false (di ca),.ro false (di dA),.ro false (di cb),.ro false (di c3),.ro false (di cZ),.ro false (.str bO),.ro k0 (.sl 7 (ae.map aa.e))],vi left]=some (vi n,[])∧-1≤n∧n≤left∧(0≤n→bO.size≤1048576∧ae.length≤1048576∧aa.aq ae):=by
 obtain ⟨n,g,a,b,s⟩:=MW ⟨ca,dA,cb,⟨c3,cZ,bO⟩,ae⟩ k0 left h0 h1 iT c5 dU;exact ⟨n,g,a,b,fun h=>by have:=s h;simp only [aa.fL,af.sm,and_assoc] at this;exact this⟩
theorem t221 (l:List aa) (left:Int) (h0:0≤left) (h1:left≤1048576) (hl:l.length≤9223372036854775807) (aP:aa.aV l):
 ∃n,Gw TT 221 [.one (.ro k0 (.sl 7 (l.map aa.e))),vi left]=some (vi n,[])∧-1≤n∧n≤left∧(0≤n→l.length≤1048576∧aa.aq l):=BC l (fun y _=>BB y) k0 left h0 h1 hl aP
theorem t222 (h0:0≤left) (h1:left≤1048576) (vI:gX.size≤9223372036854775807) (vH:eC.length≤9223372036854775807) (vS:aa.aV eC) (vF:fc.length≤9223372036854775807):
 ∃n,Gw TT 222 [.st [.ro false (di ca),.ro false (di lT),.ro false (di lS),.ro false (di lU),.ro false (di lW),.ro false (di lV),.ro false (.str gX),.ro k0 (.sl 7 (eC.map aa.e)),.ro false (di dA),.ro k0 (.sl 1 (fc.map ei))],vi left]=some (vi n,[])∧-1≤n∧n≤left∧(0≤n→gX.size≤1048576∧eC.length≤1048576∧aa.aq eC∧fc.length≤1048576):=by
 refine cj (F:=qe) rfl rfl ?_;show Wp _ xC _ _;unfold xC;obtain ⟨n1,g1,a1,b1,s1⟩:=t220 k0 lT lS lU lW lV gX eC left (by omega) (by omega) vI vH vS;refine Uw g1 ?_ ?_;all_goals repeat intro hc
 ·exact ⟨-1,by simp [qe],by omega,by omega,fun h=>absurd h (by omega)⟩
 obtain ⟨n2,g2,a2,b2,s2⟩:=t219 k0 fc n1 (by omega) (by omega) vF;refine Uw g2 ?_ ?_;all_goals repeat intro hc
 ·exact ⟨-1,by simp [qe],by omega,by omega,fun h=>absurd h (by omega)⟩
 ·exact ⟨n2,by simp [qe],by omega,by omega,fun _=>⟨(s1 (by omega)).1,(s1 (by omega)).2.1,(s1 (by omega)).2.2,(s2 (by omega))⟩⟩
theorem t224 (h0:0≤left) (h1:left≤1048576) (vL:eE.length≤9223372036854775807) (vU:ak.aV eE) (iT:bO.size≤9223372036854775807):
 ∃n,Gw TT 224 [.st [.ro k0 (.sl 2 (eE.map ak.e)),.ro false (di ie),.ro false (.bool lP),.ro false (di c3),.ro false (di cZ),.ro false (.str bO)],vi left]=some (vi n,[])∧-1≤n∧n≤left∧(0≤n→eE.length≤1048576∧ak.aq eE∧bO.size≤1048576):=by
 refine cj (F:=qf) rfl rfl ?_;show Wp _ xE _ _;unfold xE;obtain ⟨n1,g1,a1,b1,s1⟩:=t226 k0 eE left (by omega) (by omega) vL vU;refine Uw g1 ?_ ?_;all_goals repeat intro hc
 ·exact ⟨-1,by simp [qf],by omega,by omega,fun h=>absurd h (by omega)⟩
 obtain ⟨n2,g2,a2,b2,s2⟩:=t231 c3 cZ bO n1 (by omega) (by omega) iT;refine Uw g2 ?_ ?_;all_goals repeat intro hc
 ·exact ⟨-1,by simp [qf],by omega,by omega,fun h=>absurd h (by omega)⟩
 ·exact ⟨n2,by simp [qf],by omega,by omega,fun _=>⟨(s1 (by omega)).1,(s1 (by omega)).2,(s2 (by omega))⟩⟩
theorem t229 (h0:0≤left) (h1:left≤1048576) (nq:bq.length≤9223372036854775807) (nx:af.aV bq) (np:dq.size≤9223372036854775807) (nm:bI.length≤9223372036854775807) (nv:aa.aV bI) (nk:bT.length≤9223372036854775807) (c5:ae.length≤9223372036854775807) (vD:eB.length≤9223372036854775807) (vR:ak.aV eB):
 ∃n,Gw TT 229 [.st [.ro false (di cb),.ro false (di oH),.ro false (di oD),.ro k0 (.sl 3 (bq.map af.e)),.ro false (di dW),.ro false (di eO),.ro false (di eQ),.ro false (di eP),.ro false (di eR),.ro false (di eT),.ro false (di eS),.ro false (.str dq),.ro k0 (.sl 7 (bI.map aa.e)),.ro false (di eN),.ro k0 (.sl 1 (bT.map ei)),.ro false (di oI),.ro false (di fM),.ro k0 (.sl 5 (ae.map ay.e)),.ro false (di oE),.ro false (di oF),.ro false (di eG),.ro false (di kx),.ro false (di oG),.ro false (.bool oJ),.ro k0 (.sl 2 (eB.map ak.e))],vi left]=some (vi n,[])∧-1≤n∧n≤left∧(0≤n→bq.length≤1048576∧af.aq bq∧dq.size≤1048576∧bI.length≤1048576∧aa.aq bI∧bT.length≤1048576∧ae.length≤1048576∧eB.length≤1048576∧ak.aq eB):=by
 refine cj (F:=lF) rfl rfl ?_;show Wp _ xJ _ _;unfold xJ;obtain ⟨n1,g1,a1,b1,s1⟩:=t232 k0 bq left (by omega) (by omega) nq nx;refine Uw g1 ?_ ?_;all_goals repeat intro hc
 ·exact ⟨-1,by simp [lF],by omega,by omega,fun h=>absurd h (by omega)⟩
 obtain ⟨n2,g2,a2,b2,s2⟩:=t222 k0 eO eQ eP eR eT eS dq bI eN bT n1 (by omega) (by omega) np nm nv nk;refine Uw g2 ?_ ?_;all_goals repeat intro hc
 ·exact ⟨-1,by simp [lF],by omega,by omega,fun h=>absurd h (by omega)⟩
 obtain ⟨n3,g3,a3,b3,s3⟩:=t223 k0 ae n2 (by omega) (by omega) c5;refine Uw g3 ?_ ?_;all_goals repeat intro hc
 ·exact ⟨-1,by simp [lF],by omega,by omega,fun h=>absurd h (by omega)⟩
 obtain ⟨n4,g4,a4,b4,s4⟩:=t226 k0 eB n3 (by omega) (by omega) vD vR;refine Uw g4 ?_ ?_;all_goals repeat intro hc
 ·exact ⟨-1,by simp [lF],by omega,by omega,fun h=>absurd h (by omega)⟩
 ·exact ⟨n4,by simp [lF],by omega,by omega,fun _=>⟨(s1 (by omega)).1,(s1 (by omega)).2,(s2 (by omega)).1,(s2 (by omega)).2.1,(s2 (by omega)).2.2.1,(s2 (by omega)).2.2.2,(s3 (by omega)),(s4 (by omega)).1,(s4 (by omega)).2⟩⟩
theorem t230 (l:List au) (left:Int) (h0:0≤left) (h1:left≤1048576) (hl:l.length≤9223372036854775807) (aP:au.aV l):
 ∃n,Gw TT 230 [.one (.ro k0 (.sl 25 (l.map au.e))),vi left]=some (vi n,[])∧-1≤n∧n≤left∧(0≤n→l.length≤1048576∧au.aq l):=by
 refine cj (F:=qi) rfl rfl ?_;show Wp _ xK _ _;unfold xK;have g:=Wi (left-(l.length:Int));refine Ud g ?_ ?_;all_goals repeat intro hc
 ·exact ⟨-1,by simp [qi],by omega,by omega,fun h=>absurd h (by omega)⟩
 ·refine bn (σ:=List au×List au×Int) (fun s=>[(0,AV.v k0 (D.sl 25 (zg au.e l)),none),(1,AV.v false (di s.2.2),none),(5,AV.v false (di (s.1.length:Nat)),none)]) (fun s=>l=s.1++s.2.1∧0≤s.2.2∧s.2.2≤left-(l.length:Int)∧au.aq s.1) (fun s=>s.2.1.length) ([],l,left-(l.length:Int)) (by simp) ⟨rfl,by simp only;omega,by simp only;omega,fun y hy=>by simp at hy⟩ ?_;rintro ⟨pre,rest,lf⟩ ⟨h2,h3,h4,h5⟩;simp only at h2 h3 h4 h5;subst h2;simp only [zb,za] at hl h4 g;rcases rest with _|⟨⟨a_,fX,fP,aL,br,⟨cR,⟨cT,cS,cU,⟨cX,cV,cW⟩,aY⟩,cQ,a9⟩,gk,gn,ax,fQ,fT,cY,dO,fW,gp,ed⟩,rest⟩
  ·unfold yb;refine Ud Oo ?_;repeat intro hc
   simp only [ze] at h4;all_goals exact ⟨lf,by simp [qi],by omega,by omega,fun _=>⟨by simp;omega,by simpa using h5⟩⟩
  ·unfold yb;simp only [za] at hl h4;have hw:=Wi ((pre.length:Int)+1);have hd:=aP ⟨a_,fX,fP,aL,br,⟨cR,⟨cT,cS,cU,⟨cX,cV,cW⟩,aY⟩,cQ,a9⟩,gk,gn,ax,fQ,fT,cY,dO,fW,gp,ed⟩ (by simp);simp only [au.ok,dC.ok,aa.ok_eq,af.ok,and_assoc] at hd;obtain ⟨CH,Cu,QE,PK,Qu,Pz,ss,sv,vo,vl,CJ,Cw,CL,Cy,CK,Cx,CM,Cz,CO,CB,CN,CA,sr,sq,su,CI,Cv,sn,C1,QM,PV,QO,PY,nr,pG,Qv,PA,Qz,PE,QJ,PS,Qm,Pv,QD,PJ,CX,C3⟩:=hd;obtain ⟨n1,g1,a1,b1,s1⟩:=t229 k0 a_ fX fP aL br cR cT cS cU cX cV cW aY cQ a9 gk gn ax fQ fT cY dO fW gp ed lf (by omega) (by omega) ss sv sr sq su sn nr CX C3;refine Ud (J2 g1 hw) ?_ ?_;all_goals repeat intro hc
   ·exact ⟨-1,by simp [qi],by omega,by omega,fun h=>absurd h (by omega)⟩
   ·exact ⟨(pre++[⟨a_,fX,fP,aL,br,⟨cR,⟨cT,cS,cU,⟨cX,cV,cW⟩,aY⟩,cQ,a9⟩,gk,gn,ax,fQ,fT,cY,dO,fW,gp,ed⟩],rest,n1),by simp,⟨by simp,by simp only;omega,by simp only [zb,za];omega,fun y hy=>by
     rcases zo.1 hy with hy|hy
     ·exact h5 y hy
     ·rw [zm.1 hy];simp only [au.sm,dC.sm,aa.fL,af.sm,and_assoc]
      exact s1 (by omega)⟩,by simp⟩
theorem t216 (h0:0≤left) (h1:left≤1048576) (nq:bq.length≤9223372036854775807) (nx:af.aV bq) (np:dq.size≤9223372036854775807) (nm:bI.length≤9223372036854775807) (nv:aa.aV bI) (nk:bT.length≤9223372036854775807) (vJ:eD.length≤9223372036854775807) (vT:ak.aV eD) (vK:gD.size≤9223372036854775807):
 ∃n,Gw TT 216 [.st [.ro false (di cb),.ro false (di lZ),.ro k0 (.sl 3 (bq.map af.e)),.ro false (di dW),.ro false (di eO),.ro false (di eQ),.ro false (di eP),.ro false (di eR),.ro false (di eT),.ro false (di eS),.ro false (.str dq),.ro k0 (.sl 7 (bI.map aa.e)),.ro false (di eN),.ro k0 (.sl 1 (bT.map ei)),.ro k0 (.sl 2 (eD.map ak.e)),.ro false (di kB),.ro false (.bool kA),.ro false (di kD),.ro false (di kC),.ro false (.str gD),.ro false (di lO),.ro false (di lY),.ro false (di lQ),.ro false (di lR),.ro false (di lX)],vi left]=some (vi n,[])∧-1≤n∧n≤left∧(0≤n→bq.length≤1048576∧af.aq bq∧dq.size≤1048576∧bI.length≤1048576∧aa.aq bI∧bT.length≤1048576∧eD.length≤1048576∧ak.aq eD∧gD.size≤1048576):=by
 refine cj (F:=oo) rfl rfl ?_;show Wp _ xx _ _;unfold xx;obtain ⟨n1,g1,a1,b1,s1⟩:=t232 k0 bq left (by omega) (by omega) nq nx;refine Uw g1 ?_ ?_;all_goals repeat intro hc
 ·exact ⟨-1,by simp [oo],by omega,by omega,fun h=>absurd h (by omega)⟩
 obtain ⟨n2,g2,a2,b2,s2⟩:=t222 k0 eO eQ eP eR eT eS dq bI eN bT n1 (by omega) (by omega) np nm nv nk;refine Uw g2 ?_ ?_;all_goals repeat intro hc
 ·exact ⟨-1,by simp [oo],by omega,by omega,fun h=>absurd h (by omega)⟩
 obtain ⟨n3,g3,a3,b3,s3⟩:=t224 k0 eD kB kA kD kC gD n2 (by omega) (by omega) vJ vT vK;refine Uw g3 ?_ ?_;all_goals repeat intro hc
 ·exact ⟨-1,by simp [oo],by omega,by omega,fun h=>absurd h (by omega)⟩
 ·exact ⟨n3,by simp [oo],by omega,by omega,fun _=>⟨(s1 (by omega)).1,(s1 (by omega)).2,(s2 (by omega)).1,(s2 (by omega)).2.1,(s2 (by omega)).2.2.1,(s2 (by omega)).2.2.2,(s3 (by omega)).1,(s3 (by omega)).2.1,(s3 (by omega)).2.2⟩⟩
theorem t217 (l:List an) (left:Int) (h0:0≤left) (h1:left≤1048576) (hl:l.length≤9223372036854775807) (aP:an.aV l):
 ∃n,Gw TT 217 [.one (.ro k0 (.sl 25 (l.map an.e))),vi left]=some (vi n,[])∧-1≤n∧n≤left∧(0≤n→l.length≤1048576∧an.aq l):=by
 refine cj (F:=qc) rfl rfl ?_;show Wp _ xy _ _;unfold xy;have g:=Wi (left-(l.length:Int));refine Ud g ?_ ?_;all_goals repeat intro hc
 ·exact ⟨-1,by simp [qc],by omega,by omega,fun h=>absurd h (by omega)⟩
 ·refine bn (σ:=List an×List an×Int) (fun s=>[(0,AV.v k0 (D.sl 25 (zg an.e l)),none),(1,AV.v false (di s.2.2),none),(5,AV.v false (di (s.1.length:Nat)),none)]) (fun s=>l=s.1++s.2.1∧0≤s.2.2∧s.2.2≤left-(l.length:Int)∧an.aq s.1) (fun s=>s.2.1.length) ([],l,left-(l.length:Int)) (by simp) ⟨rfl,by simp only;omega,by simp only;omega,fun y hy=>by simp at hy⟩ ?_;rintro ⟨pre,rest,lf⟩ ⟨h2,h3,h4,h5⟩;simp only at h2 h3 h4 h5;subst h2;simp only [zb,za] at hl h4 g;rcases rest with _|⟨⟨a_,gj,aL,br,⟨cR,⟨cT,cS,cU,⟨cX,cV,cW⟩,aY⟩,cQ,a9⟩,⟨dt,fZ,fY,⟨gf,f_,ga⟩⟩,fO,gh,fS,fU,gg⟩,rest⟩
  ·unfold x8;refine Ud Oo ?_;repeat intro hc
   simp only [ze] at h4;all_goals exact ⟨lf,by simp [qc],by omega,by omega,fun _=>⟨by simp;omega,by simpa using h5⟩⟩
  ·unfold x8;simp only [za] at hl h4;have hw:=Wi ((pre.length:Int)+1);have hd:=aP ⟨a_,gj,aL,br,⟨cR,⟨cT,cS,cU,⟨cX,cV,cW⟩,aY⟩,cQ,a9⟩,⟨dt,fZ,fY,⟨gf,f_,ga⟩⟩,fO,gh,fS,fU,gg⟩ (by simp);simp only [an.ok,dC.ok,aa.ok_eq,af.ok,eW.ok,and_assoc] at hd;obtain ⟨CH,Cu,QL,PU,ss,sv,vo,vl,CJ,Cw,CL,Cy,CK,Cx,CM,Cz,CO,CB,CN,CA,sr,sq,su,CI,Cv,sn,C1,CY,C4,QF,PL,QH,PN,QG,PM,CZ,Qp,Px,QK,PT,Qy,PD,QB,PH,QI,PQ⟩:=hd;obtain ⟨n1,g1,a1,b1,s1⟩:=t216 k0 a_ gj aL br cR cT cS cU cX cV cW aY cQ a9 dt fZ fY gf f_ ga fO gh fS fU gg lf (by omega) (by omega) ss sv sr sq su sn CY C4 CZ;refine Ud (J2 g1 hw) ?_ ?_;all_goals repeat intro hc
   ·exact ⟨-1,by simp [qc],by omega,by omega,fun h=>absurd h (by omega)⟩
   ·exact ⟨(pre++[⟨a_,gj,aL,br,⟨cR,⟨cT,cS,cU,⟨cX,cV,cW⟩,aY⟩,cQ,a9⟩,⟨dt,fZ,fY,⟨gf,f_,ga⟩⟩,fO,gh,fS,fU,gg⟩],rest,n1),by simp,⟨by simp,by simp only;omega,by simp only [zb,za];omega,fun y hy=>by
     rcases zo.1 hy with hy|hy
     ·exact h5 y hy
     ·rw [zm.1 hy];simp only [an.sm,dC.sm,aa.fL,af.sm,eW.sm,and_assoc]
      exact s1 (by omega)⟩,by simp⟩
theorem t233 (h0:0≤left) (h1:left≤1048576) (vu:aH.length≤9223372036854775807) (vA:aO.length≤9223372036854775807) (vt:aK.length≤9223372036854775807) (vO:ao.aV aK) (vE:aE.length≤9223372036854775807) (vN:aZ.length≤9223372036854775807) (vG:ba.length≤9223372036854775807) (vM:az.length≤9223372036854775807) (vV:au.aV az) (vB:aG.length≤9223372036854775807) (vQ:an.aV aG):
 ∃n,Gw TT 233 [.st [.ro k0 (.sl 1 (aH.map ei)),.ro false (di c9),.ro false (di c8),.ro false (di dk),.ro false (di dj),.ro false (di dh),.ro false (di c_),.ro k0 (.sl 5 (aO.map ay.e)),.ro k0 (.sl 5 (aK.map ao.e)),.ro k0 (.sl 1 (aE.map ei)),.ro k0 (.sl 3 (aZ.map aJ.e)),.ro k0 (.sl 1 (ba.map ei)),.ro k0 (.sl 25 (az.map au.e)),.ro k0 (.sl 25 (aG.map an.e))],vi left]=some (vi n,[])∧-1≤n∧n≤left∧(0≤n→aH.length≤1048576∧aO.length≤1048576∧aK.length≤1048576∧ao.aq aK∧aE.length≤1048576∧aZ.length≤1048576∧ba.length≤1048576∧az.length≤1048576∧au.aq az∧aG.length≤1048576∧an.aq aG):=by
 refine cj (F:=gK) rfl rfl ?_;show Wp _ xN _ _;unfold xN;obtain ⟨n1,g1,a1,b1,s1⟩:=t214 k0 aH c9 c8 left (by omega) (by omega) vu;refine Uw g1 ?_ ?_;all_goals repeat intro hc
 ·exact ⟨-1,by simp [gK],by omega,by omega,fun h=>absurd h (by omega)⟩
 obtain ⟨n2,g2,a2,b2,s2⟩:=t218 k0 c_ aO n1 (by omega) (by omega) vA;refine Uw g2 ?_ ?_;all_goals repeat intro hc
 ·exact ⟨-1,by simp [gK],by omega,by omega,fun h=>absurd h (by omega)⟩
 obtain ⟨n3,g3,a3,b3,s3⟩:=t211 k0 aK n2 (by omega) (by omega) vt vO;refine Uw g3 ?_ ?_;all_goals repeat intro hc
 ·exact ⟨-1,by simp [gK],by omega,by omega,fun h=>absurd h (by omega)⟩
 obtain ⟨n4,g4,a4,b4,s4⟩:=t219 k0 aE n3 (by omega) (by omega) vE;refine Uw g4 ?_ ?_;all_goals repeat intro hc
 ·exact ⟨-1,by simp [gK],by omega,by omega,fun h=>absurd h (by omega)⟩
 obtain ⟨n5,g5,a5,b5,s5⟩:=t215 k0 aZ n4 (by omega) (by omega) vN;refine Uw g5 ?_ ?_;all_goals repeat intro hc
 ·exact ⟨-1,by simp [gK],by omega,by omega,fun h=>absurd h (by omega)⟩
 obtain ⟨n6,g6,a6,b6,s6⟩:=t219 k0 ba n5 (by omega) (by omega) vG;refine Uw g6 ?_ ?_;all_goals repeat intro hc
 ·exact ⟨-1,by simp [gK],by omega,by omega,fun h=>absurd h (by omega)⟩
 obtain ⟨n7,g7,a7,b7,s7⟩:=t230 k0 az n6 (by omega) (by omega) vM vV;refine Uw g7 ?_ ?_;all_goals repeat intro hc
 ·exact ⟨-1,by simp [gK],by omega,by omega,fun h=>absurd h (by omega)⟩
 obtain ⟨n8,g8,a8,b8,s8⟩:=t217 k0 aG n7 (by omega) (by omega) vB vQ;refine Uw g8 ?_ ?_;all_goals repeat intro hc
 ·exact ⟨-1,by simp [gK],by omega,by omega,fun h=>absurd h (by omega)⟩
 ·exact ⟨n8,by simp [gK],by omega,by omega,fun _=>⟨(s1 (by omega)),(s2 (by omega)),(s3 (by omega)).1,(s3 (by omega)).2,(s4 (by omega)),(s5 (by omega)),(s6 (by omega)),(s7 (by omega)).1,(s7 (by omega)).2,(s8 (by omega)).1,(s8 (by omega)).2⟩⟩
@[simp] theorem abx (x a b:Int):Gw TT 377 [vi x,vi a,vi b]=some (vb (decide (a≤x)&&decide (x≤b)),[]):=by
 refine dw (F:=Ba) rfl rfl ?_;show Wp _ Fi _ _;unfold Fi
 repeat' first|refine Zs ?_|((with_reducible refine Xk fun K k=>?_);simp;(repeat' (with_reducible first|refine k _ ?_|(refine bm ?_ ?_<;>(intro hc;(try rw [zd] at hc);first|(exfalso;omega)|(try simp [hc])))));all_goals clear k K)|refine Xt rfl ?_|refine Xf rfl ?_
 all_goals first|(simp_all [Ba];done)|(simp_all [Ba];omega)
def aa9 (op pc:Int):Bool:=(op !=0)&&decide (1≤pc)
def KE (op pc:Int):Bool:=(op==3)&&decide (2≤pc)
def Jj:Int→List au→Int
 |n,[]=>n
 |n,d::l=>if d.Op=0 then Jj n l else Jj (IntKind.wrap .i64 (n+1)) l
def K8:Int→List au→Int
 |n,[]=>n
 |n,d::l=>if KE d.Op d.Pc=true∧d.Ts<n then K8 d.Ts l else K8 n l
def L4 (ts:Int):Int→List au→Int
 |n,[]=>n
 |n,d::l=>if KE d.Op d.Pc=true∧d.Ts=ts then L4 ts (IntKind.wrap .i64 (n+1)) l else L4 ts n l
def eA (id:Int):Int→List au→Int
 |_,[]=>-1
 |i,d::l=>if d.Op=2∧d.Id=id∧d.I8=true then i else eA id (i+1) l
@[simp] theorem t63 (e:Int) (h:az.length≤1048576):Gw TT 63 [.st [.ro k0 (.sl 1 (aH.map ei)),.ro false (di c9),.ro false (di c8),.ro false (di dk),.ro false (di dj),.ro false (di dh),.ro false (di c_),.ro k0 (.sl 5 (aO.map ay.e)),.ro k0 (.sl 5 (aK.map ao.e)),.ro k0 (.sl 1 (aE.map ei)),.ro k0 (.sl 3 (aZ.map aJ.e)),.ro k0 (.sl 1 (ba.map ei)),.ro k0 (.sl 25 (az.map au.e)),.ro k0 (.sl 25 (aG.map an.e))],vi e]=some (vi (eA e 0 az),[]):=by
 refine dw (F:=Bb) rfl rfl ?_;show Wp _ Fx _ _;unfold Fx
 repeat' first|refine Zs ?_|((with_reducible refine Xk fun K k=>?_);simp;(repeat' (with_reducible first|refine k _ ?_|(refine bm ?_ ?_<;>(intro hc;(try rw [zd] at hc);first|(exfalso;omega)|(try simp [hc])))));all_goals clear k K)|refine Xt rfl ?_|refine Xf rfl ?_|(refine We rfl ?_ ?_<;>(intro hc;(try simp at hc);(all_goals first|(exfalso;omega)|skip)))
 refine bn (σ:=List (au)×List (au)) (fun s=>[(1,AV.v false (di e),none),(2,AV.bx 2 0,some (Rt.bx [.ro k0 (.sl 1 (aH.map ei)),.ro false (di c9),.ro false (di c8),.ro false (di dk),.ro false (di dj),.ro false (di dh),.ro false (di c_),.ro k0 (.sl 5 (aO.map ay.e)),.ro k0 (.sl 5 (aK.map ao.e)),.ro k0 (.sl 1 (aE.map ei)),.ro k0 (.sl 3 (aZ.map aJ.e)),.ro k0 (.sl 1 (ba.map ei)),.ro k0 (.sl 25 (az.map au.e)),.ro k0 (.sl 25 (aG.map an.e))])),(8,AV.v k0 (D.sl 25 (az.map au.e)),none),(9,AV.v false (di (az.length:Nat)),none),(10,AV.v false (di ((s.1.length:Nat):Int)),none)]) (fun s=>az=s.1++s.2∧eA e ((s.1.length:Nat):Int) s.2=eA e (0:Int) az) (fun s=>s.2.length) ([],az) (by simp) ⟨rfl,rfl⟩ ?_;rintro ⟨pre,rest⟩ ⟨h1,h2⟩;simp only at h1 h2;subst h1;simp only [zb,za] at h;rcases rest with _|⟨d,rest⟩
 ·unfold Il;simp only [eA] at h2
  repeat' first|refine Zs ?_|((with_reducible refine Xk fun K k=>?_);simp;(repeat' (with_reducible first|refine k _ ?_|(refine bm ?_ ?_<;>(intro hc;(try rw [zd] at hc);first|(exfalso;omega)|(try simp [hc])))));all_goals clear k K)|refine Xt rfl ?_|refine Xf rfl ?_|(refine We rfl ?_ ?_<;>(intro hc;(try simp at hc);(all_goals first|(exfalso;omega)|skip)))
  simp_all [Bb]
 ·unfold Il;simp only [za] at h;simp only [eA] at h2;have hw:=Wi ((pre.length:Int)+1) (by omega) (by omega)
  repeat' first|refine Zs ?_|((with_reducible refine Xk fun K k=>?_);simp [hw];(repeat' (with_reducible first|refine k _ ?_|(refine bm ?_ ?_<;>(intro hc;(try rw [zd] at hc);first|(exfalso;omega)|(try simp [hc,hw])))));all_goals clear k K)|refine Xt rfl ?_|refine Xf rfl ?_|(refine We rfl ?_ ?_<;>(intro hc;(try simp at hc);(all_goals first|(exfalso;omega)|skip)))
  all_goals first|(refine ⟨(pre++[d],rest),?_,⟨?_,?_⟩,?_⟩;(focus (first|(simp;done)|(simp_all;done)));(focus (simp;done));(focus (refine zr ?_ h2;clear h2;first|(simp [*];done)|(simp_all;done)|(split<;>simp_all<;>omega)|(split<;>first|(exfalso;omega)|(simp_all;done))));(focus (simp;done)))|(simp_all [Bb];done)
@[simp] theorem t344 (e:Int) (h:az.length≤1048576):Gw TT 344 [.st [.ro k0 (.sl 1 (aH.map ei)),.ro false (di c9),.ro false (di c8),.ro false (di dk),.ro false (di dj),.ro false (di dh),.ro false (di c_),.ro k0 (.sl 5 (aO.map ay.e)),.ro k0 (.sl 5 (aK.map ao.e)),.ro k0 (.sl 1 (aE.map ei)),.ro k0 (.sl 3 (aZ.map aJ.e)),.ro k0 (.sl 1 (ba.map ei)),.ro k0 (.sl 25 (az.map au.e)),.ro k0 (.sl 25 (aG.map an.e))],vi e]=some (vi (eA e 0 az),[]):=by
 refine dw (F:=A_) rfl rfl ?_;show Wp _ Fa _ _;unfold Fa
 repeat' first|refine Zs ?_|((with_reducible refine Xk fun K k=>?_);simp;(repeat' (with_reducible first|refine k _ ?_|(refine bm ?_ ?_<;>(intro hc;(try rw [zd] at hc);first|(exfalso;omega)|(try simp [hc])))));all_goals clear k K)|refine Xt rfl ?_|refine Xf rfl ?_|(refine We rfl ?_ ?_<;>(intro hc;(try simp at hc);(all_goals first|(exfalso;omega)|skip)))
 refine bn (σ:=List (au)×List (au)) (fun s=>[(1,AV.v false (di e),none),(2,AV.bx 2 0,some (Rt.bx [.ro k0 (.sl 1 (aH.map ei)),.ro false (di c9),.ro false (di c8),.ro false (di dk),.ro false (di dj),.ro false (di dh),.ro false (di c_),.ro k0 (.sl 5 (aO.map ay.e)),.ro k0 (.sl 5 (aK.map ao.e)),.ro k0 (.sl 1 (aE.map ei)),.ro k0 (.sl 3 (aZ.map aJ.e)),.ro k0 (.sl 1 (ba.map ei)),.ro k0 (.sl 25 (az.map au.e)),.ro k0 (.sl 25 (aG.map an.e))])),(5,AV.v false (di ((s.1.length:Nat):Int)),none)]) (fun s=>az=s.1++s.2∧eA e ((s.1.length:Nat):Int) s.2=eA e (0:Int) az) (fun s=>s.2.length) ([],az) (by simp) ⟨rfl,rfl⟩ ?_;rintro ⟨pre,rest⟩ ⟨h1,h2⟩;simp only at h1 h2;subst h1;simp only [zb,za] at h;rcases rest with _|⟨d,rest⟩
 ·unfold H';simp only [eA] at h2
  repeat' first|refine Zs ?_|((with_reducible refine Xk fun K k=>?_);simp;(repeat' (with_reducible first|refine k _ ?_|(refine bm ?_ ?_<;>(intro hc;(try rw [zd] at hc);first|(exfalso;omega)|(try simp [hc])))));all_goals clear k K)|refine Xt rfl ?_|refine Xf rfl ?_|(refine We rfl ?_ ?_<;>(intro hc;(try simp at hc);(all_goals first|(exfalso;omega)|skip)))
  simp_all [A_]
 ·unfold H';simp only [za] at h;simp only [eA] at h2;have hw:=Wi ((pre.length:Int)+1) (by omega) (by omega)
  repeat' first|refine Zs ?_|((with_reducible refine Xk fun K k=>?_);simp [hw];(repeat' (with_reducible first|refine k _ ?_|(refine bm ?_ ?_<;>(intro hc;(try rw [zd] at hc);first|(exfalso;omega)|(try simp [hc,hw])))));all_goals clear k K)|refine Xt rfl ?_|refine Xf rfl ?_|(refine We rfl ?_ ?_<;>(intro hc;(try simp at hc);(all_goals first|(exfalso;omega)|skip)))
  all_goals first|(refine ⟨(pre++[d],rest),?_,⟨?_,?_⟩,?_⟩;(focus (first|(simp;done)|(simp_all;done)));(focus (simp;done));(focus (refine zr ?_ h2;clear h2;first|(simp [*];done)|(simp_all;done)|(split<;>simp_all<;>omega)|(split<;>first|(exfalso;omega)|(simp_all;done))));(focus (simp;done)))|(simp_all [A_];done)
@[simp] theorem abN {α:Type} {n:Nat} (l r:List α) (h:n=l.length):(l++r).take n=l:=by subst h;simp
@[simp] theorem WI:pf (l.map eb)=some (l.map fun n=>zp n.toNat):=by
 induction l with
 |nil=>rfl
 |cons n l ih=>
  have:pf (zg eb (n::l))=match pf (l.map eb) with
   |some bs=>some (zp n.toNat::bs)
   |none=>none:=rfl
  rw [this,ih];try rfl
@[simp] theorem W4:jm []=true:=rfl
@[simp] theorem Ka {α:Type} (f:α→List D) (l:List α) (h:∀x,(f x).all D.bC=true):jm (l.map f)=true:=by
 simp only [jm,List.all_map,zu,Function.comp];exact fun x _=>zu.1 (h x)
@[simp] theorem W5 (e:List D) (l:List (List D)):jm (e::l)=(e.all D.bC&&jm l):=rfl
@[simp] theorem W1 (l m:List (List D)):jm (l++m)=(jm l&&jm m):=by simp [jm]
@[simp] theorem aa6 (k:IntKind) (n:Int):(D.int k n).live=true:=rfl
@[simp] theorem aa5 (b:Bool):(D.bool b).live=true:=rfl
@[simp] theorem aa8 (s:ByteArray):(D.str s).live=true:=rfl
@[simp] theorem aa7 (sz:Nat) (es:List (List D)):(D.sl sz es).live=true:=rfl
def pj (k:Nat) (out:ByteArray):ByteArray:=
 if h:k=0 then out else pj (k/10) (⟨#[zp (IntKind.wrap .u8 (48+((k:Int).tmod 10))).toNat]⟩++out)
termination_by k
decreasing_by omega
def rr (k:Int):ByteArray:=if k≤0 then ⟨#[109,48]⟩ else ⟨#[109]⟩++pj k.toNat ⟨#[]⟩
@[simp] theorem Nc (x:UInt8):(ByteArray.mk #[x]).size=1:=rfl
theorem N0 (out:ByteArray):pj 0 out=out:=by unfold pj;simp
theorem NZ (k:Nat) (out:ByteArray) (h:k≠0):pj k out=pj (k/10) (⟨#[zp (IntKind.wrap .u8 (48+((k:Int).tmod 10))).toNat]⟩++out):=by
 rw [pj];simp [h]
@[simp] theorem t196 (h:k≤4611686018427387904):Gw TT 196 [vi k]=some (.one (.ro false (.str (rr k))),[]):=by
 refine Ga A9 EE ?_;unfold EE;refine Ud Oo ?_ ?_;all_goals repeat intro hc
 ·simp [A9,rr, *]
 ·refine bn (σ:=Nat×ByteArray) (fun s=>[(0,AV.v false (di ((s.1:Nat):Int)),none),(3,AV.v false (.str s.2),none)]) (fun s=>pj s.1 s.2=pj k.toNat ⟨#[]⟩∧s.1+s.2.size≤k.toNat) (fun s=>s.1) (k.toNat,⟨#[]⟩) (by simp;omega) ⟨rfl,zq _⟩ ?_;rintro ⟨n,out⟩ ⟨h1,h2⟩;simp only at h1 h2;unfold LQ;have ht:(n:Int).tmod 10=(n:Int)%10:=Int.tmod_eq_emod_of_nonneg (by omega);have hq:IntKind.wrap .i64 (48+(n:Int).tmod 10)=48+(n:Int).tmod 10:=by rw [ht];exact wrap_i64 (by omega) (by omega)
  have hd:IntKind.wrap .i64 ((n:Int).tdiv 10)=((n/10:Nat):Int):=by rw [Int.tdiv_eq_ediv_of_nonneg (by omega)];rw [wrap_i64 (by omega) (by omega)];omega
  have Rh:(9223372036854775807<1+(out.size:Int))=False:=by simp only [eq_iff_iff,iff_false];omega
  have jU:=Wi ((n:Int)/10);refine Ud (J3 hq hd Rh) ?_ ?_;all_goals repeat intro hc
  all_goals first|(exact ⟨(n/10,⟨#[zp (IntKind.wrap .u8 (48+(n:Int).tmod 10)).toNat]⟩++out),by simp [jU],⟨by rw [←h1,NZ n out (by omega)],by simp only [ByteArray.size_append,Nc];omega⟩,by simp only;omega⟩)|skip
  all_goals first|(exfalso;omega)|(subst hc;rw [N0] at h1;have hk:¬k≤0:=by omega
                                   subst h1;simp [A9,rr,hk];done)
def rS:Int→Int
 |d=>1
def ef:List Int→Int
 |[]=>0
 |x::l=>rS x+ef l
def nW:Int→Int→Int
 |k,d=>IntKind.wrap .u8 k
def kq:Int→List Int→List Int
 |_,[]=>[]
 |k,x::l=>nW k x::kq (k+rS x) l
theorem NO:∀x:Int,1≤rS x
 |d=>by simp only [rS];omega
theorem yH:∀l:List Int,(l.length:Int)≤ef l
 |[]=>by simp [ef]
 |x::l=>by have h1:=NO x;have h2:=yH l;simp only [ef,za];omega
theorem tU:0≤ef l:=by have:=yH l;omega
@[simp] theorem SJ:∀(k:Int) (l:List Int),(kq k l).length=l.length
 |_,[]=>by simp [kq]
 |k,x::l=>by simp [kq,SJ]
theorem JF:∀l:List Int,ef l=1*(l.length:Int)
 |[]=>by simp [ef]
 |x::l=>by have h2:=JF l;simp only [ef,za,rS];omega
theorem Jq (k1:Int) (h0:0≤k1) (hB:k1+(1)≤4611686018427387904):
 ∃w1:Int,w1=k1+1∧IntKind.wrap .i64 (k1+1)=w1∧k1+(1)=w1∧0≤w1:=
 ⟨k1+1,rfl,wrap_i64 (by omega) (by omega),by omega,by omega⟩
def qF:Int→Int
 |d=>1
def aj:List Int→Int
 |[]=>0
 |x::l=>qF x+aj l
def mkInt:Int→Int→Int
 |k,d=>k
def fw:Int→List Int→List Int
 |_,[]=>[]
 |k,x::l=>mkInt k x::fw (k+qF x) l
theorem NS:∀x:Int,1≤qF x
 |d=>by simp only [qF];omega
theorem yK:∀l:List Int,(l.length:Int)≤aj l
 |[]=>by simp [aj]
 |x::l=>by have h1:=NS x;have h2:=yK l;simp only [aj,za];omega
theorem eu:0≤aj l:=by have:=yK l;omega
@[simp] theorem SM:∀(k:Int) (l:List Int),(fw k l).length=l.length
 |_,[]=>by simp [fw]
 |k,x::l=>by simp [fw,SM]
theorem JJ:∀l:List Int,aj l=1*(l.length:Int)
 |[]=>by simp [aj]
 |x::l=>by have h2:=JJ l;simp only [aj,za,qF];omega
theorem Jt (k1:Int) (h0:0≤k1) (hB:k1+(1)≤4611686018427387904):
 ∃w1:Int,w1=k1+1∧IntKind.wrap .i64 (k1+1)=w1∧k1+(1)=w1∧0≤w1:=
 ⟨k1+1,rfl,wrap_i64 (by omega) (by omega),by omega,by omega⟩
def rT:aJ→Int
 |⟨fk,cL,dO⟩=>1+1+1
def bU:List aJ→Int
 |[]=>0
 |x::l=>rT x+bU l
def nX:Int→aJ→aJ
 |k,⟨fk,cL,dO⟩=>⟨k,k+1,k+1+1⟩
def jz:Int→List aJ→List aJ
 |_,[]=>[]
 |k,x::l=>nX k x::jz (k+rT x) l
theorem NP:∀x:aJ,1≤rT x
 |⟨fk,cL,dO⟩=>by simp only [rT];omega
theorem yI:∀l:List aJ,(l.length:Int)≤bU l
 |[]=>by simp [bU]
 |x::l=>by have h1:=NP x;have h2:=yI l;simp only [bU,za];omega
theorem rU (l:List aJ):0≤bU l:=by have:=yI l;omega
@[simp] theorem SK:∀(k:Int) (l:List aJ),(jz k l).length=l.length
 |_,[]=>by simp [jz]
 |k,x::l=>by simp [jz,SK]
theorem JG:∀l:List aJ,bU l=3*(l.length:Int)
 |[]=>by simp [bU]
 |x::l=>by have h2:=JG l;simp only [bU,za,rT];omega
theorem Jr (k1:Int) (h0:0≤k1) (hB:k1+(1+1+1)≤4611686018427387904):
 ∃w1 w2 w3:Int,w1=k1+1∧IntKind.wrap .i64 (k1+1)=w1∧w2=w1+1∧IntKind.wrap .i64 (w1+1)=w2∧w3=w2+1∧IntKind.wrap .i64 (w2+1)=w3∧k1+(1+1+1)=w3∧0≤w3:=
 ⟨k1+1,k1+1+1,k1+1+1+1,rfl,wrap_i64 (by omega) (by omega),rfl,wrap_i64 (by omega) (by omega),rfl,wrap_i64 (by omega) (by omega),by omega,by omega⟩
def rW:ay→Int
 |⟨fk,cL,bh,mH,mI⟩=>1+1+1+1+1
def aX:List ay→Int
 |[]=>0
 |x::l=>rW x+aX l
def mkRef:Int→ay→ay
 |k,⟨fk,cL,bh,mH,mI⟩=>⟨k,k+1,k+1+1,k+1+1+1,k+1+1+1+1⟩
def h_:Int→List ay→List ay
 |_,[]=>[]
 |k,x::l=>mkRef k x::h_ (k+rW x) l
theorem NT:∀x:ay,1≤rW x
 |⟨fk,cL,bh,mH,mI⟩=>by simp only [rW];omega
theorem yL:∀l:List ay,(l.length:Int)≤aX l
 |[]=>by simp [aX]
 |x::l=>by have h1:=NT x;have h2:=yL l;simp only [aX,za];omega
theorem kJ (l:List ay):0≤aX l:=by have:=yL l;omega
@[simp] theorem SO:∀(k:Int) (l:List ay),(h_ k l).length=l.length
 |_,[]=>by simp [h_]
 |k,x::l=>by simp [h_,SO]
theorem JN:∀l:List ay,aX l=5*(l.length:Int)
 |[]=>by simp [aX]
 |x::l=>by have h2:=JN l;simp only [aX,za,rW];omega
theorem Jv (k1:Int) (h0:0≤k1) (hB:k1+(1+1+1+1+1)≤4611686018427387904):
 ∃w1 w2 w3 w4 w5:Int,w1=k1+1∧IntKind.wrap .i64 (k1+1)=w1∧w2=w1+1∧IntKind.wrap .i64 (w1+1)=w2∧w3=w2+1∧IntKind.wrap .i64 (w2+1)=w3∧w4=w3+1∧IntKind.wrap .i64 (w3+1)=w4∧w5=w4+1∧IntKind.wrap .i64 (w4+1)=w5∧k1+(1+1+1+1+1)=w5∧0≤w5:=
 ⟨k1+1,k1+1+1,k1+1+1+1,k1+1+1+1+1,k1+1+1+1+1+1,rfl,wrap_i64 (by omega) (by omega),rfl,wrap_i64 (by omega) (by omega),rfl,wrap_i64 (by omega) (by omega),rfl,wrap_i64 (by omega) (by omega),rfl,wrap_i64 (by omega) (by omega),by omega,by omega⟩
def qK:af→Int
 |⟨gl,fV,cY⟩=>1+1+1
def aT:List af→Int
 |[]=>0
 |x::l=>qK x+aT l
def og:Int→af→af
 |k,⟨gl,fV,cY⟩=>⟨k,k+1,rr (k+1+1)⟩
def iI:Int→List af→List af
 |_,[]=>[]
 |k,x::l=>og k x::iI (k+qK x) l
theorem NX:∀x:af,1≤qK x
 |⟨gl,fV,cY⟩=>by simp only [qK];omega
theorem yP:∀l:List af,(l.length:Int)≤aT l
 |[]=>by simp [aT]
 |x::l=>by have h1:=NX x;have h2:=yP l;simp only [aT,za];omega
theorem il (l:List af):0≤aT l:=by have:=yP l;omega
@[simp] theorem SS:∀(k:Int) (l:List af),(iI k l).length=l.length
 |_,[]=>by simp [iI]
 |k,x::l=>by simp [iI,SS]
theorem Jy (k1:Int) (h0:0≤k1) (hB:k1+(1+1+1)≤4611686018427387904):
 ∃w1 w2 w3:Int,w1=k1+1∧IntKind.wrap .i64 (k1+1)=w1∧w2=w1+1∧IntKind.wrap .i64 (w1+1)=w2∧w3=w2+1∧IntKind.wrap .i64 (w2+1)=w3∧w2≤4611686018427387904∧k1+(1+1+1)=w3∧0≤w3:=
 ⟨k1+1,k1+1+1,k1+1+1+1,rfl,wrap_i64 (by omega) (by omega),rfl,wrap_i64 (by omega) (by omega),rfl,wrap_i64 (by omega) (by omega),by omega,by omega,by omega⟩
def qI:aC→Int
 |⟨fR,ax⟩=>1+aT ax
def dN:List aC→Int
 |[]=>0
 |x::l=>qI x+dN l
def n_:Int→aC→aC
 |k,⟨fR,ax⟩=>⟨k,iI (k+1) ax⟩
def kr:Int→List aC→List aC
 |_,[]=>[]
 |k,x::l=>n_ k x::kr (k+qI x) l
theorem NV:∀x:aC,1≤qI x
 |⟨fR,ax⟩=>by have t_:=il ax;simp only [qI];omega
theorem yN:∀l:List aC,(l.length:Int)≤dN l
 |[]=>by simp [dN]
 |x::l=>by have h1:=NV x;have h2:=yN l;simp only [dN,za];omega
theorem rX (l:List aC):0≤dN l:=by have:=yN l;omega
@[simp] theorem SQ:∀(k:Int) (l:List aC),(kr k l).length=l.length
 |_,[]=>by simp [kr]
 |k,x::l=>by simp [kr,SQ]
theorem Jx (k1 en:Int) (h0:0≤k1) (t_:0≤en) (hB:k1+(1+en)≤4611686018427387904):
 ∃w1 w2:Int,w1=k1+1∧IntKind.wrap .i64 (k1+1)=w1∧w2=w1+en∧0≤w1∧w2≤4611686018427387904∧¬w2<0∧k1+(1+en)=w2∧0≤w2:=
 ⟨k1+1,k1+1+en,rfl,wrap_i64 (by omega) (by omega),rfl,by omega,by omega,by omega,by omega,by omega⟩
def qE:ao→Int
 |⟨cL,bh,⟨fN,dX⟩,ec⟩=>1+1+1+dN dX+ef ec
def bD:List ao→Int
 |[]=>0
 |x::l=>qE x+bD l
def nV:Int→ao→ao
 |k,⟨cL,bh,⟨fN,dX⟩,ec⟩=>⟨k,k+1,⟨k+1+1,kr (k+1+1+1) dX⟩,kq (k+1+1+1+dN dX) ec⟩
def jy:Int→List ao→List ao
 |_,[]=>[]
 |k,x::l=>nV k x::jy (k+qE x) l
theorem NN:∀x:ao,1≤qE x
 |⟨cL,bh,⟨fN,dX⟩,ec⟩=>by have OB:=rX dX;have OC:=tU ec;simp only [qE];omega
theorem yG:∀l:List ao,(l.length:Int)≤bD l
 |[]=>by simp [bD]
 |x::l=>by have h1:=NN x;have h2:=yG l;simp only [bD,za];omega
theorem rR (l:List ao):0≤bD l:=by have:=yG l;omega
@[simp] theorem SI:∀(k:Int) (l:List ao),(jy k l).length=l.length
 |_,[]=>by simp [jy]
 |k,x::l=>by simp [jy,SI]
theorem Jp (k1 tJ uH:Int) (h0:0≤k1) (OB:0≤tJ) (OC:0≤uH) (hB:k1+(1+1+1+tJ+uH)≤4611686018427387904):
 ∃w1 w2 w3 w4 w5:Int,w1=k1+1∧IntKind.wrap .i64 (k1+1)=w1∧w2=w1+1∧IntKind.wrap .i64 (w1+1)=w2∧w3=w2+1∧IntKind.wrap .i64 (w2+1)=w3∧w4=w3+tJ∧0≤w3∧w4≤4611686018427387904∧¬w4<0∧w5=w4+uH∧0≤w4∧w5≤4611686018427387904∧¬w5<0∧k1+(1+1+1+tJ+uH)=w5∧0≤w5:=
 ⟨k1+1,k1+1+1,k1+1+1+1,k1+1+1+1+tJ,k1+1+1+1+tJ+uH,rfl,wrap_i64 (by omega) (by omega),rfl,wrap_i64 (by omega) (by omega),rfl,wrap_i64 (by omega) (by omega),rfl,by omega,by omega,by omega,rfl,by omega,by omega,by omega,by omega,by omega⟩
def qH:ak→Int
 |⟨br,ax⟩=>1+aT ax
def b_:List ak→Int
 |[]=>0
 |x::l=>qH x+b_ l
def n9:Int→ak→ak
 |k,⟨br,ax⟩=>⟨k,iI (k+1) ax⟩
def jB:Int→List ak→List ak
 |_,[]=>[]
 |k,x::l=>n9 k x::jB (k+qH x) l
theorem NU:∀x:ak,1≤qH x
 |⟨br,ax⟩=>by have t_:=il ax;simp only [qH];omega
theorem yM:∀l:List ak,(l.length:Int)≤b_ l
 |[]=>by simp [b_]
 |x::l=>by have h1:=NU x;have h2:=yM l;simp only [b_,za];omega
theorem mT (l:List ak):0≤b_ l:=by have:=yM l;omega
@[simp] theorem SP:∀(k:Int) (l:List ak),(jB k l).length=l.length
 |_,[]=>by simp [jB]
 |k,x::l=>by simp [jB,SP]
theorem Jw (k1 en:Int) (h0:0≤k1) (t_:0≤en) (hB:k1+(1+en)≤4611686018427387904):
 ∃w1 w2:Int,w1=k1+1∧IntKind.wrap .i64 (k1+1)=w1∧w2=w1+en∧0≤w1∧w2≤4611686018427387904∧¬w2<0∧k1+(1+en)=w2∧0≤w2:=
 ⟨k1+1,k1+1+en,rfl,wrap_i64 (by omega) (by omega),rfl,by omega,by omega,by omega,by omega,by omega⟩
@[simp] theorem t184 (h0:0≤k) (hc:k+ef l≤4611686018427387904):Gw TT 184 [.one (.own (.sl 1 (l.map eb))),vi k]=some (vi (k+ef l),[(0,0,.own (.sl 1 ((kq k l).map eb)))]):=by
 refine Ga Gm Et ?_;unfold Et;generalize hM:kq k l=M;have hlen:=yH l;refine Ud Oo ?_
 ·refine bn (σ:=List Int×List Int×Int) (fun s=>[(0,AV.pl 0 0 [],some (Rt.aR [C.own (D.sl 1 (s.1.map eb++s.2.1.map eb))])),(1,AV.v false (di s.2.2),none),(5,AV.v false (di ((s.1.length:Nat):Int)),none)]) (fun s=>M=s.1++kq s.2.2 s.2.1∧s.2.2+ef s.2.1=k+ef l∧s.1.length+s.2.1.length=l.length∧0≤s.2.2) (fun s=>s.2.1.length) ([],l,k) (by simp) ⟨hM.symm,rfl,by simp,h0⟩ ?_;rintro ⟨pre,rest,k1⟩ ⟨h1,h2,h3,h4⟩;simp only at h1 h2 h3 h4;rcases rest with _|⟨d,rest⟩
  ·unfold HO;simp only [kq,ef,zf,zh] at h1 h2;subst h1;refine Ud Oo ?_;repeat intro hc
   all_goals simp [Gm,h2]
  ·unfold HO;simp only [kq,ef,nW,rS,za] at h1 h2 h3;have e_:=tU rest;have hw:=Wi ((pre.length:Int)+1);have ah:(pre.length:Int)<(pre.length:Int)+((rest.length:Int)+1):=by omega
   have bV:(pre++[nW k1 d]).length+rest.length=l.length:=by simp only [zb,za,ze];omega
   have bE:k1+(1)+ef rest=k+ef l:=by omega
   obtain ⟨w1,aQ,bf,hE,hZ⟩:=Jq k1 h4 (by omega);rw [hE] at h1 bE;try simp only [←aQ] at h1
   subst h1
   repeat' (first
    |with_reducible (first|refine wp_seq ?_|refine cJ ?_|refine wp_skip ?_|refine wp_exit ?_|refine wp_ret ?_|refine cH ?_|refine cI ?_|refine cG ?_|refine cp ?_|refine cq ?_|refine cn ?_|refine cE ?_|refine cD ?_|refine cF ?_|refine cB ?_|refine cA ?_|refine cx ?_|refine cw ?_|refine cz ?_|refine cy ?_)
    |(with_reducible refine cK fun K hK=>?_
      simp[bf,hw,ah]
      repeat' (with_reducible first|refine hK _ ?_|(refine bm ?_ ?_<;>(intro hc;(try rw [zd] at hc);first|(try simp [hc,bf,hw,ah]))))
      all_goals (clear hK;clear K))
    |(with_reducible refine cP ?_
      refine ⟨_,rfl,?_,?_⟩<;>(intro hc;(try simp at hc);skip)))
   exact ⟨(pre++[nW k1 d],rest,w1),by simp [nW,aQ],⟨by simp [nW,aQ],bE,bV,hZ⟩,by simp⟩
@[simp] theorem t169 (h0:0≤k) (hc:k+ef l≤4611686018427387904):Gw TT 169 [.one (.ro k0 (.sl 1 ((kq k l).map eb))),vi k]=some (vi (k+ef l),[]):=by
 refine Ga F8 Ee ?_;unfold Ee;generalize hM:kq k l=M;have hlen:=yH l;refine Ud Oo ?_
 ·refine bn (σ:=List Int×List Int×Int) (fun s=>[(0,AV.v k0 (D.sl 1 (M.map eb)),none),(1,AV.v false (di s.2.2),none),(5,AV.v false (di ((s.1.length:Nat):Int)),none)]) (fun s=>M=s.1++kq s.2.2 s.2.1∧s.2.2+ef s.2.1=k+ef l∧s.1.length+s.2.1.length=l.length∧0≤s.2.2) (fun s=>s.2.1.length) ([],l,k) (by simp [hM]) ⟨hM.symm,rfl,by simp,h0⟩ ?_;rintro ⟨pre,rest,k1⟩ ⟨h1,h2,h3,h4⟩;simp only at h1 h2 h3 h4;rcases rest with _|⟨d,rest⟩
  ·unfold HD;simp only [kq,ef,zf,zh] at h1 h2;subst h1;refine Ud Oo ?_;repeat intro hc
   all_goals simp [F8,h2]
  ·unfold HD;simp only [kq,ef,nW,rS,za] at h1 h2 h3;have e_:=tU rest;have hw:=Wi ((pre.length:Int)+1);have ah:(pre.length:Int)<(pre.length:Int)+((rest.length:Int)+1):=by omega
   have bV:(pre++[nW k1 d]).length+rest.length=l.length:=by simp only [zb,za,ze];omega
   have bE:k1+(1)+ef rest=k+ef l:=by omega
   obtain ⟨w1,aQ,bf,hE,hZ⟩:=Jq k1 h4 (by omega);rw [hE] at h1 bE;try simp only [←aQ] at h1
   subst h1
   repeat' (first
    |with_reducible (first|refine wp_seq ?_|refine cJ ?_|refine wp_skip ?_|refine wp_exit ?_|refine wp_ret ?_|refine cH ?_|refine cI ?_|refine cG ?_|refine cp ?_|refine cq ?_|refine cn ?_|refine cE ?_|refine cD ?_|refine cF ?_|refine cB ?_|refine cA ?_|refine cx ?_|refine cw ?_|refine cz ?_|refine cy ?_)
    |(with_reducible refine cK fun K hK=>?_
      simp[bf,hw,ah]
      repeat' (with_reducible first|refine hK _ ?_|(refine bm ?_ ?_<;>(intro hc;(try rw [zd] at hc);first|(try simp [hc,bf,hw,ah]))))
      all_goals (clear hK;clear K))
    |(with_reducible refine cP ?_
      refine ⟨_,rfl,?_,?_⟩<;>(intro hc;(try simp at hc);skip)))
   exact ⟨(pre++[nW k1 d],rest,w1),by simp [nW,aQ],⟨by simp [nW,aQ],bE,bV,hZ⟩,by simp⟩
@[simp] theorem t190 (h0:0≤k) (hc:k+aj l≤4611686018427387904):Gw TT 190 [.one (.own (.sl 1 (l.map ei))),vi k]=some (vi (k+aj l),[(0,0,.own (.sl 1 ((fw k l).map ei)))]):=by
 refine Ga Gt Ey ?_;unfold Ey;generalize hM:fw k l=M;have hlen:=yK l;refine Ud Oo ?_
 ·refine bn (σ:=List Int×List Int×Int) (fun s=>[(0,AV.pl 0 0 [],some (Rt.aR [C.own (D.sl 1 (s.1.map ei++s.2.1.map ei))])),(1,AV.v false (di s.2.2),none),(5,AV.v false (di ((s.1.length:Nat):Int)),none)]) (fun s=>M=s.1++fw s.2.2 s.2.1∧s.2.2+aj s.2.1=k+aj l∧s.1.length+s.2.1.length=l.length∧0≤s.2.2) (fun s=>s.2.1.length) ([],l,k) (by simp) ⟨hM.symm,rfl,by simp,h0⟩ ?_;rintro ⟨pre,rest,k1⟩ ⟨h1,h2,h3,h4⟩;simp only at h1 h2 h3 h4;rcases rest with _|⟨d,rest⟩
  ·unfold HR;simp only [fw,aj,zf,zh] at h1 h2;subst h1;refine Ud Oo ?_;repeat intro hc
   all_goals simp [Gt,h2]
  ·unfold HR;simp only [fw,aj,mkInt,qF,za] at h1 h2 h3;have e_:=eu rest;have hw:=Wi ((pre.length:Int)+1);have ah:(pre.length:Int)<(pre.length:Int)+((rest.length:Int)+1):=by omega
   have bV:(pre++[mkInt k1 d]).length+rest.length=l.length:=by simp only [zb,za,ze];omega
   have bE:k1+(1)+aj rest=k+aj l:=by omega
   obtain ⟨w1,aQ,bf,hE,hZ⟩:=Jt k1 h4 (by omega);rw [hE] at h1 bE;try simp only [←aQ] at h1
   subst h1
   repeat' (first
    |with_reducible (first|refine wp_seq ?_|refine cJ ?_|refine wp_skip ?_|refine wp_exit ?_|refine wp_ret ?_|refine cH ?_|refine cI ?_|refine cG ?_|refine cp ?_|refine cq ?_|refine cn ?_|refine cE ?_|refine cD ?_|refine cF ?_|refine cB ?_|refine cA ?_|refine cx ?_|refine cw ?_|refine cz ?_|refine cy ?_)
    |(with_reducible refine cK fun K hK=>?_
      simp[bf,hw,ah]
      repeat' (with_reducible first|refine hK _ ?_|(refine bm ?_ ?_<;>(intro hc;(try rw [zd] at hc);first|(try simp [hc,bf,hw,ah]))))
      all_goals (clear hK;clear K))
    |(with_reducible refine cP ?_
      refine ⟨_,rfl,?_,?_⟩<;>(intro hc;(try simp at hc);skip)))
   exact ⟨(pre++[mkInt k1 d],rest,w1),by simp [mkInt,aQ],⟨by simp [mkInt,aQ],bE,bV,hZ⟩,by simp⟩
@[simp] theorem t175 (h0:0≤k) (hc:k+aj l≤4611686018427387904):Gw TT 175 [.one (.ro k0 (.sl 1 ((fw k l).map ei))),vi k]=some (vi (k+aj l),[]):=by
 refine Ga Gc Ej ?_;unfold Ej;generalize hM:fw k l=M;have hlen:=yK l;refine Ud Oo ?_
 ·refine bn (σ:=List Int×List Int×Int) (fun s=>[(0,AV.v k0 (D.sl 1 (M.map ei)),none),(1,AV.v false (di s.2.2),none),(5,AV.v false (di ((s.1.length:Nat):Int)),none)]) (fun s=>M=s.1++fw s.2.2 s.2.1∧s.2.2+aj s.2.1=k+aj l∧s.1.length+s.2.1.length=l.length∧0≤s.2.2) (fun s=>s.2.1.length) ([],l,k) (by simp [hM]) ⟨hM.symm,rfl,by simp,h0⟩ ?_;rintro ⟨pre,rest,k1⟩ ⟨h1,h2,h3,h4⟩;simp only at h1 h2 h3 h4;rcases rest with _|⟨d,rest⟩
  ·unfold HG;simp only [fw,aj,zf,zh] at h1 h2;subst h1;refine Ud Oo ?_;repeat intro hc
   all_goals simp [Gc,h2]
  ·unfold HG;simp only [fw,aj,mkInt,qF,za] at h1 h2 h3;have e_:=eu rest;have hw:=Wi ((pre.length:Int)+1);have ah:(pre.length:Int)<(pre.length:Int)+((rest.length:Int)+1):=by omega
   have bV:(pre++[mkInt k1 d]).length+rest.length=l.length:=by simp only [zb,za,ze];omega
   have bE:k1+(1)+aj rest=k+aj l:=by omega
   obtain ⟨w1,aQ,bf,hE,hZ⟩:=Jt k1 h4 (by omega);rw [hE] at h1 bE;try simp only [←aQ] at h1
   subst h1
   repeat' (first
    |with_reducible (first|refine wp_seq ?_|refine cJ ?_|refine wp_skip ?_|refine wp_exit ?_|refine wp_ret ?_|refine cH ?_|refine cI ?_|refine cG ?_|refine cp ?_|refine cq ?_|refine cn ?_|refine cE ?_|refine cD ?_|refine cF ?_|refine cB ?_|refine cA ?_|refine cx ?_|refine cw ?_|refine cz ?_|refine cy ?_)
    |(with_reducible refine cK fun K hK=>?_
      simp[bf,hw,ah]
      repeat' (with_reducible first|refine hK _ ?_|(refine bm ?_ ?_<;>(intro hc;(try rw [zd] at hc);first|(try simp [hc,bf,hw,ah]))))
      all_goals (clear hK;clear K))
    |(with_reducible refine cP ?_
      refine ⟨_,rfl,?_,?_⟩<;>(intro hc;(try simp at hc);skip)))
   exact ⟨(pre++[mkInt k1 d],rest,w1),by simp [mkInt,aQ],⟨by simp [mkInt,aQ],bE,bV,hZ⟩,by simp⟩
@[simp] theorem t187 (l:List aJ) (k:Int) (h0:0≤k) (hc:k+bU l≤4611686018427387904):Gw TT 187 [.one (.own (.sl 3 (l.map aJ.e))),vi k]=some (vi (k+bU l),[(0,0,.own (.sl 3 ((jz k l).map aJ.e)))]):=by
 refine Ga Gq Ev ?_;unfold Ev;generalize hM:jz k l=M;have hlen:=yI l;refine Ud Oo ?_
 ·refine bn (σ:=List aJ×List aJ×Int) (fun s=>[(0,AV.pl 0 0 [],some (Rt.aR [C.own (D.sl 3 (s.1.map aJ.e++s.2.1.map aJ.e))])),(1,AV.v false (di s.2.2),none),(5,AV.v false (di ((s.1.length:Nat):Int)),none)]) (fun s=>M=s.1++jz s.2.2 s.2.1∧s.2.2+bU s.2.1=k+bU l∧s.1.length+s.2.1.length=l.length∧0≤s.2.2) (fun s=>s.2.1.length) ([],l,k) (by simp) ⟨hM.symm,rfl,by simp,h0⟩ ?_;rintro ⟨pre,rest,k1⟩ ⟨h1,h2,h3,h4⟩;simp only at h1 h2 h3 h4;rcases rest with _|⟨⟨fk,cL,dO⟩,rest⟩
  ·unfold HP;simp only [jz,bU,zf,zh] at h1 h2;subst h1;refine Ud Oo ?_;repeat intro hc
   all_goals simp [Gq,h2]
  ·unfold HP;simp only [jz,bU,nX,rT,za] at h1 h2 h3;have e_:=rU rest;have hw:=Wi ((pre.length:Int)+1);have ah:(pre.length:Int)<(pre.length:Int)+((rest.length:Int)+1):=by omega
   have bV:(pre++[nX k1 ⟨fk,cL,dO⟩]).length+rest.length=l.length:=by simp only [zb,za,ze];omega
   have bE:k1+(1+1+1)+bU rest=k+bU l:=by omega
   obtain ⟨w1,w2,w3,aQ,bf,aU,bW,bB,dB,hE,hZ⟩:=Jr k1 h4 (by omega);rw [hE] at h1 bE;try simp only [←aQ,←aU,←bB] at h1
   subst h1
   repeat' (first
    |with_reducible (first|refine wp_seq ?_|refine cJ ?_|refine wp_skip ?_|refine wp_exit ?_|refine wp_ret ?_|refine cH ?_|refine cI ?_|refine cG ?_|refine cp ?_|refine cq ?_|refine cn ?_|refine cE ?_|refine cD ?_|refine cF ?_|refine cB ?_|refine cA ?_|refine cx ?_|refine cw ?_|refine cz ?_|refine cy ?_)
    |(with_reducible refine cK fun K hK=>?_
      simp[bf,bW,dB,hw,ah]
      repeat' (with_reducible first|refine hK _ ?_|(refine bm ?_ ?_<;>(intro hc;(try rw [zd] at hc);first|(try simp [hc,bf,bW,dB,hw,ah]))))
      all_goals (clear hK;clear K))
    |(with_reducible refine cP ?_
      refine ⟨_,rfl,?_,?_⟩<;>(intro hc;(try simp at hc);skip)))
   exact ⟨(pre++[nX k1 ⟨fk,cL,dO⟩],rest,w3),by simp [nX,aQ,aU,bB],⟨by simp [nX,aQ,aU,bB],bE,bV,hZ⟩,by simp⟩
@[simp] theorem t172 (l:List aJ) (k:Int) (h0:0≤k) (hc:k+bU l≤4611686018427387904):Gw TT 172 [.one (.ro k0 (.sl 3 ((jz k l).map aJ.e))),vi k]=some (vi (k+bU l),[]):=by
 refine Ga F_ Eg ?_;unfold Eg;generalize hM:jz k l=M;have hlen:=yI l;refine Ud Oo ?_
 ·refine bn (σ:=List aJ×List aJ×Int) (fun s=>[(0,AV.v k0 (D.sl 3 (M.map aJ.e)),none),(1,AV.v false (di s.2.2),none),(5,AV.v false (di ((s.1.length:Nat):Int)),none)]) (fun s=>M=s.1++jz s.2.2 s.2.1∧s.2.2+bU s.2.1=k+bU l∧s.1.length+s.2.1.length=l.length∧0≤s.2.2) (fun s=>s.2.1.length) ([],l,k) (by simp [hM]) ⟨hM.symm,rfl,by simp,h0⟩ ?_;rintro ⟨pre,rest,k1⟩ ⟨h1,h2,h3,h4⟩;simp only at h1 h2 h3 h4;rcases rest with _|⟨⟨fk,cL,dO⟩,rest⟩
  ·unfold HE;simp only [jz,bU,zf,zh] at h1 h2;subst h1;refine Ud Oo ?_;repeat intro hc
   all_goals simp [F_,h2]
  ·unfold HE;simp only [jz,bU,nX,rT,za] at h1 h2 h3;have e_:=rU rest;have hw:=Wi ((pre.length:Int)+1);have ah:(pre.length:Int)<(pre.length:Int)+((rest.length:Int)+1):=by omega
   have bV:(pre++[nX k1 ⟨fk,cL,dO⟩]).length+rest.length=l.length:=by simp only [zb,za,ze];omega
   have bE:k1+(1+1+1)+bU rest=k+bU l:=by omega
   obtain ⟨w1,w2,w3,aQ,bf,aU,bW,bB,dB,hE,hZ⟩:=Jr k1 h4 (by omega);rw [hE] at h1 bE;try simp only [←aQ,←aU,←bB] at h1
   subst h1
   repeat' (first
    |with_reducible (first|refine wp_seq ?_|refine cJ ?_|refine wp_skip ?_|refine wp_exit ?_|refine wp_ret ?_|refine cH ?_|refine cI ?_|refine cG ?_|refine cp ?_|refine cq ?_|refine cn ?_|refine cE ?_|refine cD ?_|refine cF ?_|refine cB ?_|refine cA ?_|refine cx ?_|refine cw ?_|refine cz ?_|refine cy ?_)
    |(with_reducible refine cK fun K hK=>?_
      simp[bf,bW,dB,hw,ah]
      repeat' (with_reducible first|refine hK _ ?_|(refine bm ?_ ?_<;>(intro hc;(try rw [zd] at hc);first|(try simp [hc,bf,bW,dB,hw,ah]))))
      all_goals (clear hK;clear K))
    |(with_reducible refine cP ?_
      refine ⟨_,rfl,?_,?_⟩<;>(intro hc;(try simp at hc);skip)))
   exact ⟨(pre++[nX k1 ⟨fk,cL,dO⟩],rest,w3),by simp [nX,aQ,aU,bB],⟨by simp [nX,aQ,aU,bB],bE,bV,hZ⟩,by simp⟩
@[simp] theorem t192 (l:List ay) (k:Int) (h0:0≤k) (hc:k+aX l≤4611686018427387904):Gw TT 192 [.one (.own (.sl 5 (l.map ay.e))),vi k]=some (vi (k+aX l),[(0,0,.own (.sl 5 ((h_ k l).map ay.e)))]):=by
 refine Ga Gv EA ?_;unfold EA;generalize hM:h_ k l=M;have hlen:=yL l;refine Ud Oo ?_
 ·refine bn (σ:=List ay×List ay×Int) (fun s=>[(0,AV.pl 0 0 [],some (Rt.aR [C.own (D.sl 5 (s.1.map ay.e++s.2.1.map ay.e))])),(1,AV.v false (di s.2.2),none),(5,AV.v false (di ((s.1.length:Nat):Int)),none)]) (fun s=>M=s.1++h_ s.2.2 s.2.1∧s.2.2+aX s.2.1=k+aX l∧s.1.length+s.2.1.length=l.length∧0≤s.2.2) (fun s=>s.2.1.length) ([],l,k) (by simp) ⟨hM.symm,rfl,by simp,h0⟩ ?_;rintro ⟨pre,rest,k1⟩ ⟨h1,h2,h3,h4⟩;simp only at h1 h2 h3 h4;rcases rest with _|⟨⟨fk,cL,bh,mH,mI⟩,rest⟩
  ·unfold HT;simp only [h_,aX,zf,zh] at h1 h2;subst h1;refine Ud Oo ?_;repeat intro hc
   all_goals simp [Gv,h2]
  ·unfold HT;simp only [h_,aX,mkRef,rW,za] at h1 h2 h3;have e_:=kJ rest;have hw:=Wi ((pre.length:Int)+1);have ah:(pre.length:Int)<(pre.length:Int)+((rest.length:Int)+1):=by omega
   have bV:(pre++[mkRef k1 ⟨fk,cL,bh,mH,mI⟩]).length+rest.length=l.length:=by simp only [zb,za,ze];omega
   have bE:k1+(1+1+1+1+1)+aX rest=k+aX l:=by omega
   obtain ⟨w1,w2,w3,w4,w5,aQ,bf,aU,bW,bB,dB,bL,iX,ch,fH,hE,hZ⟩:=Jv k1 h4 (by omega);rw [hE] at h1 bE;try simp only [←aQ,←aU,←bB,←bL,←ch] at h1
   subst h1
   repeat' (first
    |with_reducible (first|refine wp_seq ?_|refine cJ ?_|refine wp_skip ?_|refine wp_exit ?_|refine wp_ret ?_|refine cH ?_|refine cI ?_|refine cG ?_|refine cp ?_|refine cq ?_|refine cn ?_|refine cE ?_|refine cD ?_|refine cF ?_|refine cB ?_|refine cA ?_|refine cx ?_|refine cw ?_|refine cz ?_|refine cy ?_)
    |(with_reducible refine cK fun K hK=>?_
      simp[bf,bW,dB,iX,fH,hw,ah]
      repeat' (with_reducible first|refine hK _ ?_|(refine bm ?_ ?_<;>(intro hc;(try rw [zd] at hc);first|(try simp [hc,bf,bW,dB,iX,fH,hw,ah]))))
      all_goals (clear hK;clear K))
    |(with_reducible refine cP ?_
      refine ⟨_,rfl,?_,?_⟩<;>(intro hc;(try simp at hc);skip)))
   exact ⟨(pre++[mkRef k1 ⟨fk,cL,bh,mH,mI⟩],rest,w5),by simp [mkRef,aQ,aU,bB,bL,ch],⟨by simp [mkRef,aQ,aU,bB,bL,ch],bE,bV,hZ⟩,by simp⟩
@[simp] theorem t177 (l:List ay) (k:Int) (h0:0≤k) (hc:k+aX l≤4611686018427387904):Gw TT 177 [.one (.ro k0 (.sl 5 ((h_ k l).map ay.e))),vi k]=some (vi (k+aX l),[]):=by
 refine Ga Ge El ?_;unfold El;generalize hM:h_ k l=M;have hlen:=yL l;refine Ud Oo ?_
 ·refine bn (σ:=List ay×List ay×Int) (fun s=>[(0,AV.v k0 (D.sl 5 (M.map ay.e)),none),(1,AV.v false (di s.2.2),none),(5,AV.v false (di ((s.1.length:Nat):Int)),none)]) (fun s=>M=s.1++h_ s.2.2 s.2.1∧s.2.2+aX s.2.1=k+aX l∧s.1.length+s.2.1.length=l.length∧0≤s.2.2) (fun s=>s.2.1.length) ([],l,k) (by simp [hM]) ⟨hM.symm,rfl,by simp,h0⟩ ?_;rintro ⟨pre,rest,k1⟩ ⟨h1,h2,h3,h4⟩;simp only at h1 h2 h3 h4;rcases rest with _|⟨⟨fk,cL,bh,mH,mI⟩,rest⟩
  ·unfold HI;simp only [h_,aX,zf,zh] at h1 h2;subst h1;refine Ud Oo ?_;repeat intro hc
   all_goals simp [Ge,h2]
  ·unfold HI;simp only [h_,aX,mkRef,rW,za] at h1 h2 h3;have e_:=kJ rest;have hw:=Wi ((pre.length:Int)+1);have ah:(pre.length:Int)<(pre.length:Int)+((rest.length:Int)+1):=by omega
   have bV:(pre++[mkRef k1 ⟨fk,cL,bh,mH,mI⟩]).length+rest.length=l.length:=by simp only [zb,za,ze];omega
   have bE:k1+(1+1+1+1+1)+aX rest=k+aX l:=by omega
   obtain ⟨w1,w2,w3,w4,w5,aQ,bf,aU,bW,bB,dB,bL,iX,ch,fH,hE,hZ⟩:=Jv k1 h4 (by omega);rw [hE] at h1 bE;try simp only [←aQ,←aU,←bB,←bL,←ch] at h1
   subst h1
   repeat' (first
    |with_reducible (first|refine wp_seq ?_|refine cJ ?_|refine wp_skip ?_|refine wp_exit ?_|refine wp_ret ?_|refine cH ?_|refine cI ?_|refine cG ?_|refine cp ?_|refine cq ?_|refine cn ?_|refine cE ?_|refine cD ?_|refine cF ?_|refine cB ?_|refine cA ?_|refine cx ?_|refine cw ?_|refine cz ?_|refine cy ?_)
    |(with_reducible refine cK fun K hK=>?_
      simp[bf,bW,dB,iX,fH,hw,ah]
      repeat' (with_reducible first|refine hK _ ?_|(refine bm ?_ ?_<;>(intro hc;(try rw [zd] at hc);first|(try simp [hc,bf,bW,dB,iX,fH,hw,ah]))))
      all_goals (clear hK;clear K))
    |(with_reducible refine cP ?_
      refine ⟨_,rfl,?_,?_⟩<;>(intro hc;(try simp at hc);skip)))
   exact ⟨(pre++[mkRef k1 ⟨fk,cL,bh,mH,mI⟩],rest,w5),by simp [mkRef,aQ,aU,bB,bL,ch],⟨by simp [mkRef,aQ,aU,bB,bL,ch],bE,bV,hZ⟩,by simp⟩
@[simp] theorem t197 (l:List af) (k:Int) (h0:0≤k) (hc:k+aT l≤4611686018427387904):Gw TT 197 [.one (.own (.sl 3 (l.map af.e))),vi k]=some (vi (k+aT l),[(0,0,.own (.sl 3 ((iI k l).map af.e)))]):=by
 refine Ga GA EF ?_;unfold EF;generalize hM:iI k l=M;have hlen:=yP l;refine Ud Oo ?_
 ·refine bn (σ:=List af×List af×Int) (fun s=>[(0,AV.pl 0 0 [],some (Rt.aR [C.own (D.sl 3 (s.1.map af.e++s.2.1.map af.e))])),(1,AV.v false (di s.2.2),none),(5,AV.v false (di ((s.1.length:Nat):Int)),none)]) (fun s=>M=s.1++iI s.2.2 s.2.1∧s.2.2+aT s.2.1=k+aT l∧s.1.length+s.2.1.length=l.length∧0≤s.2.2) (fun s=>s.2.1.length) ([],l,k) (by simp) ⟨hM.symm,rfl,by simp,h0⟩ ?_;rintro ⟨pre,rest,k1⟩ ⟨h1,h2,h3,h4⟩;simp only at h1 h2 h3 h4;rcases rest with _|⟨⟨gl,fV,cY⟩,rest⟩
  ·unfold HX;simp only [iI,aT,zf,zh] at h1 h2;subst h1;refine Ud Oo ?_;repeat intro hc
   all_goals simp [GA,h2]
  ·unfold HX;simp only [iI,aT,og,qK,za] at h1 h2 h3;have e_:=il rest;have hw:=Wi ((pre.length:Int)+1);have ah:(pre.length:Int)<(pre.length:Int)+((rest.length:Int)+1):=by omega
   have bV:(pre++[og k1 ⟨gl,fV,cY⟩]).length+rest.length=l.length:=by simp only [zb,za,ze];omega
   have bE:k1+(1+1+1)+aT rest=k+aT l:=by omega
   obtain ⟨w1,w2,w3,aQ,bf,aU,bW,bB,dB,wP,hE,hZ⟩:=Jy k1 h4 (by omega);rw [hE] at h1 bE;try simp only [←aQ,←aU,←bB] at h1
   subst h1
   repeat' (first
    |with_reducible (first|refine wp_seq ?_|refine cJ ?_|refine wp_skip ?_|refine wp_exit ?_|refine wp_ret ?_|refine cH ?_|refine cI ?_|refine cG ?_|refine cp ?_|refine cq ?_|refine cn ?_|refine cE ?_|refine cD ?_|refine cF ?_|refine cB ?_|refine cA ?_|refine cx ?_|refine cw ?_|refine cz ?_|refine cy ?_)
    |(with_reducible refine cK fun K hK=>?_
      simp[bf,bW,dB,wP,hw,ah]
      repeat' (with_reducible first|refine hK _ ?_|(refine bm ?_ ?_<;>(intro hc;(try rw [zd] at hc);first|(try simp [hc,bf,bW,dB,wP,hw,ah]))))
      all_goals (clear hK;clear K))
    |(with_reducible refine cP ?_
      refine ⟨_,rfl,?_,?_⟩<;>(intro hc;(try simp at hc);skip)))
   exact ⟨(pre++[og k1 ⟨gl,fV,cY⟩],rest,w3),by simp [og,aQ,aU,bB],⟨by simp [og,aQ,aU,bB],bE,bV,hZ⟩,by simp⟩
@[simp] theorem t181 (l:List af) (k:Int) (h0:0≤k) (hc:k+aT l≤4611686018427387904):Gw TT 181 [.one (.ro k0 (.sl 3 ((iI k l).map af.e))),vi k]=some (vi (k+aT l),[]):=by
 refine Ga Gj Ep ?_;unfold Ep;generalize hM:iI k l=M;have hlen:=yP l;refine Ud Oo ?_
 ·refine bn (σ:=List af×List af×Int) (fun s=>[(0,AV.v k0 (D.sl 3 (M.map af.e)),none),(1,AV.v false (di s.2.2),none),(5,AV.v false (di ((s.1.length:Nat):Int)),none)]) (fun s=>M=s.1++iI s.2.2 s.2.1∧s.2.2+aT s.2.1=k+aT l∧s.1.length+s.2.1.length=l.length∧0≤s.2.2) (fun s=>s.2.1.length) ([],l,k) (by simp [hM]) ⟨hM.symm,rfl,by simp,h0⟩ ?_;rintro ⟨pre,rest,k1⟩ ⟨h1,h2,h3,h4⟩;simp only at h1 h2 h3 h4;rcases rest with _|⟨⟨gl,fV,cY⟩,rest⟩
  ·unfold HM;simp only [iI,aT,zf,zh] at h1 h2;subst h1;refine Ud Oo ?_;repeat intro hc
   all_goals simp [Gj,h2]
  ·unfold HM;simp only [iI,aT,og,qK,za] at h1 h2 h3;have e_:=il rest;have hw:=Wi ((pre.length:Int)+1);have ah:(pre.length:Int)<(pre.length:Int)+((rest.length:Int)+1):=by omega
   have bV:(pre++[og k1 ⟨gl,fV,cY⟩]).length+rest.length=l.length:=by simp only [zb,za,ze];omega
   have bE:k1+(1+1+1)+aT rest=k+aT l:=by omega
   obtain ⟨w1,w2,w3,aQ,bf,aU,bW,bB,dB,wP,hE,hZ⟩:=Jy k1 h4 (by omega);rw [hE] at h1 bE;try simp only [←aQ,←aU,←bB] at h1
   subst h1
   repeat' (first
    |with_reducible (first|refine wp_seq ?_|refine cJ ?_|refine wp_skip ?_|refine wp_exit ?_|refine wp_ret ?_|refine cH ?_|refine cI ?_|refine cG ?_|refine cp ?_|refine cq ?_|refine cn ?_|refine cE ?_|refine cD ?_|refine cF ?_|refine cB ?_|refine cA ?_|refine cx ?_|refine cw ?_|refine cz ?_|refine cy ?_)
    |(with_reducible refine cK fun K hK=>?_
      simp[bf,bW,dB,wP,hw,ah]
      repeat' (with_reducible first|refine hK _ ?_|(refine bm ?_ ?_<;>(intro hc;(try rw [zd] at hc);first|(try simp [hc,bf,bW,dB,wP,hw,ah]))))
      all_goals (clear hK;clear K))
    |(with_reducible refine cP ?_
      refine ⟨_,rfl,?_,?_⟩<;>(intro hc;(try simp at hc);skip)))
   exact ⟨(pre++[og k1 ⟨gl,fV,cY⟩],rest,w3),by simp [og,aQ,aU,bB],⟨by simp [og,aQ,aU,bB],bE,bV,hZ⟩,by simp⟩
@[simp] theorem t194 (l:List aC) (k:Int) (h0:0≤k) (hc:k+dN l≤4611686018427387904):Gw TT 194 [.one (.own (.sl 2 (l.map aC.e))),vi k]=some (vi (k+dN l),[(0,0,.own (.sl 2 ((kr k l).map aC.e)))]):=by
 refine Ga Gy EC ?_;unfold EC;generalize hM:kr k l=M;have hlen:=yN l;refine Ud Oo ?_
 ·refine bn (σ:=List aC×List aC×Int) (fun s=>[(0,AV.pl 0 0 [],some (Rt.aR [C.own (D.sl 2 (s.1.map aC.e++s.2.1.map aC.e))])),(1,AV.v false (di s.2.2),none),(5,AV.v false (di ((s.1.length:Nat):Int)),none)]) (fun s=>M=s.1++kr s.2.2 s.2.1∧s.2.2+dN s.2.1=k+dN l∧s.1.length+s.2.1.length=l.length∧0≤s.2.2) (fun s=>s.2.1.length) ([],l,k) (by simp) ⟨hM.symm,rfl,by simp,h0⟩ ?_;rintro ⟨pre,rest,k1⟩ ⟨h1,h2,h3,h4⟩;simp only at h1 h2 h3 h4;rcases rest with _|⟨⟨fR,ax⟩,rest⟩
  ·unfold HV;simp only [kr,dN,zf,zh] at h1 h2;subst h1;refine Ud Oo ?_;repeat intro hc
   all_goals simp [Gy,h2]
  ·unfold HV;simp only [kr,dN,n_,qI,za] at h1 h2 h3;have e_:=rX rest;have hw:=Wi ((pre.length:Int)+1);have ah:(pre.length:Int)<(pre.length:Int)+((rest.length:Int)+1):=by omega
   have bV:(pre++[n_ k1 ⟨fR,ax⟩]).length+rest.length=l.length:=by simp only [zb,za,ze];omega
   have bE:k1+(1+aT ax)+dN rest=k+dN l:=by omega
   obtain ⟨w1,w2,aQ,bf,aU,ja,fb,nf,hE,hZ⟩:=Jx k1 (aT ax) h4 (il ax) (by omega);rw [hE] at h1 bE;try simp only [←aQ,←aU] at h1
   subst h1
   repeat' (first
    |with_reducible (first|refine wp_seq ?_|refine cJ ?_|refine wp_skip ?_|refine wp_exit ?_|refine wp_ret ?_|refine cH ?_|refine cI ?_|refine cG ?_|refine cp ?_|refine cq ?_|refine cn ?_|refine cE ?_|refine cD ?_|refine cF ?_|refine cB ?_|refine cA ?_|refine cx ?_|refine cw ?_|refine cz ?_|refine cy ?_)
    |(with_reducible refine cK fun K hK=>?_
      simp[bf,ja,fb,nf,←aU,hw,ah]
      repeat' (with_reducible first|refine hK _ ?_|(refine bm ?_ ?_<;>(intro hc;(try rw [zd] at hc);first|(try simp [hc,bf,ja,fb,nf,←aU,hw,ah]))))
      all_goals (clear hK;clear K))
    |(with_reducible refine cP ?_
      refine ⟨_,rfl,?_,?_⟩<;>(intro hc;(try simp at hc);skip)))
   exact ⟨(pre++[n_ k1 ⟨fR,ax⟩],rest,w2),by simp [n_,aQ,aU],⟨by simp [n_,aQ,aU],bE,bV,hZ⟩,by simp⟩
@[simp] theorem t179 (l:List aC) (k:Int) (h0:0≤k) (hc:k+dN l≤4611686018427387904):Gw TT 179 [.one (.ro k0 (.sl 2 ((kr k l).map aC.e))),vi k]=some (vi (k+dN l),[]):=by
 refine Ga Gg En ?_;unfold En;generalize hM:kr k l=M;have hlen:=yN l;refine Ud Oo ?_
 ·refine bn (σ:=List aC×List aC×Int) (fun s=>[(0,AV.v k0 (D.sl 2 (M.map aC.e)),none),(1,AV.v false (di s.2.2),none),(5,AV.v false (di ((s.1.length:Nat):Int)),none)]) (fun s=>M=s.1++kr s.2.2 s.2.1∧s.2.2+dN s.2.1=k+dN l∧s.1.length+s.2.1.length=l.length∧0≤s.2.2) (fun s=>s.2.1.length) ([],l,k) (by simp [hM]) ⟨hM.symm,rfl,by simp,h0⟩ ?_;rintro ⟨pre,rest,k1⟩ ⟨h1,h2,h3,h4⟩;simp only at h1 h2 h3 h4;rcases rest with _|⟨⟨fR,ax⟩,rest⟩
  ·unfold HK;simp only [kr,dN,zf,zh] at h1 h2;subst h1;refine Ud Oo ?_;repeat intro hc
   all_goals simp [Gg,h2]
  ·unfold HK;simp only [kr,dN,n_,qI,za] at h1 h2 h3;have e_:=rX rest;have hw:=Wi ((pre.length:Int)+1);have ah:(pre.length:Int)<(pre.length:Int)+((rest.length:Int)+1):=by omega
   have bV:(pre++[n_ k1 ⟨fR,ax⟩]).length+rest.length=l.length:=by simp only [zb,za,ze];omega
   have bE:k1+(1+aT ax)+dN rest=k+dN l:=by omega
   obtain ⟨w1,w2,aQ,bf,aU,ja,fb,nf,hE,hZ⟩:=Jx k1 (aT ax) h4 (il ax) (by omega);rw [hE] at h1 bE;try simp only [←aQ,←aU] at h1
   subst h1
   repeat' (first
    |with_reducible (first|refine wp_seq ?_|refine cJ ?_|refine wp_skip ?_|refine wp_exit ?_|refine wp_ret ?_|refine cH ?_|refine cI ?_|refine cG ?_|refine cp ?_|refine cq ?_|refine cn ?_|refine cE ?_|refine cD ?_|refine cF ?_|refine cB ?_|refine cA ?_|refine cx ?_|refine cw ?_|refine cz ?_|refine cy ?_)
    |(with_reducible refine cK fun K hK=>?_
      simp[bf,ja,fb,nf,←aU,hw,ah]
      repeat' (with_reducible first|refine hK _ ?_|(refine bm ?_ ?_<;>(intro hc;(try rw [zd] at hc);first|(try simp [hc,bf,ja,fb,nf,←aU,hw,ah]))))
      all_goals (clear hK;clear K))
    |(with_reducible refine cP ?_
      refine ⟨_,rfl,?_,?_⟩<;>(intro hc;(try simp at hc);skip)))
   exact ⟨(pre++[n_ k1 ⟨fR,ax⟩],rest,w2),by simp [n_,aQ,aU],⟨by simp [n_,aQ,aU],bE,bV,hZ⟩,by simp⟩
@[simp] theorem t183 (l:List ao) (k:Int) (h0:0≤k) (hc:k+bD l≤4611686018427387904):Gw TT 183 [.one (.own (.sl 5 (l.map ao.e))),vi k]=some (vi (k+bD l),[(0,0,.own (.sl 5 ((jy k l).map ao.e)))]):=by
 refine Ga Gl Es ?_;unfold Es;generalize hM:jy k l=M;have hlen:=yG l;refine Ud Oo ?_
 ·refine bn (σ:=List ao×List ao×Int) (fun s=>[(0,AV.pl 0 0 [],some (Rt.aR [C.own (D.sl 5 (s.1.map ao.e++s.2.1.map ao.e))])),(1,AV.v false (di s.2.2),none),(5,AV.v false (di ((s.1.length:Nat):Int)),none)]) (fun s=>M=s.1++jy s.2.2 s.2.1∧s.2.2+bD s.2.1=k+bD l∧s.1.length+s.2.1.length=l.length∧0≤s.2.2) (fun s=>s.2.1.length) ([],l,k) (by simp) ⟨hM.symm,rfl,by simp,h0⟩ ?_;rintro ⟨pre,rest,k1⟩ ⟨h1,h2,h3,h4⟩;simp only at h1 h2 h3 h4;rcases rest with _|⟨⟨cL,bh,⟨fN,dX⟩,ec⟩,rest⟩
  ·unfold HN;simp only [jy,bD,zf,zh] at h1 h2;subst h1;refine Ud Oo ?_;repeat intro hc
   all_goals simp [Gl,h2]
  ·unfold HN;simp only [jy,bD,nV,qE,za] at h1 h2 h3;have e_:=rR rest;have hw:=Wi ((pre.length:Int)+1);have ah:(pre.length:Int)<(pre.length:Int)+((rest.length:Int)+1):=by omega
   have bV:(pre++[nV k1 ⟨cL,bh,⟨fN,dX⟩,ec⟩]).length+rest.length=l.length:=by simp only [zb,za,ze];omega
   have bE:k1+(1+1+1+dN dX+ef ec)+bD rest=k+bD l:=by omega
   obtain ⟨w1,w2,w3,w4,w5,aQ,bf,aU,bW,bB,dB,bL,lA,nS,nh,ch,xg,xc,vh,hE,hZ⟩:=Jp k1 (dN dX) (ef ec) h4 (rX dX) (tU ec) (by omega);rw [hE] at h1 bE;try simp only [←aQ,←aU,←bB,←bL,←ch] at h1
   subst h1
   repeat' (first
    |with_reducible (first|refine wp_seq ?_|refine cJ ?_|refine wp_skip ?_|refine wp_exit ?_|refine wp_ret ?_|refine cH ?_|refine cI ?_|refine cG ?_|refine cp ?_|refine cq ?_|refine cn ?_|refine cE ?_|refine cD ?_|refine cF ?_|refine cB ?_|refine cA ?_|refine cx ?_|refine cw ?_|refine cz ?_|refine cy ?_)
    |(with_reducible refine cK fun K hK=>?_
      simp[bf,bW,dB,lA,nS,nh,←bL,xg,xc,vh,←ch,hw,ah]
      repeat' (with_reducible first|refine hK _ ?_|(refine bm ?_ ?_<;>(intro hc;(try rw [zd] at hc);first|(try simp [hc,bf,bW,dB,lA,nS,nh,←bL,xg,xc,vh,←ch,hw,ah]))))
      all_goals (clear hK;clear K))
    |(with_reducible refine cP ?_
      refine ⟨_,rfl,?_,?_⟩<;>(intro hc;(try simp at hc);skip)))
   exact ⟨(pre++[nV k1 ⟨cL,bh,⟨fN,dX⟩,ec⟩],rest,w5),by simp [nV,aQ,aU,bB,bL,ch],⟨by simp [nV,aQ,aU,bB,bL,ch],bE,bV,hZ⟩,by simp⟩
@[simp] theorem t168 (l:List ao) (k:Int) (h0:0≤k) (hc:k+bD l≤4611686018427387904):Gw TT 168 [.one (.ro k0 (.sl 5 ((jy k l).map ao.e))),vi k]=some (vi (k+bD l),[]):=by
 refine Ga F7 Ed ?_;unfold Ed;generalize hM:jy k l=M;have hlen:=yG l;refine Ud Oo ?_
 ·refine bn (σ:=List ao×List ao×Int) (fun s=>[(0,AV.v k0 (D.sl 5 (M.map ao.e)),none),(1,AV.v false (di s.2.2),none),(5,AV.v false (di ((s.1.length:Nat):Int)),none)]) (fun s=>M=s.1++jy s.2.2 s.2.1∧s.2.2+bD s.2.1=k+bD l∧s.1.length+s.2.1.length=l.length∧0≤s.2.2) (fun s=>s.2.1.length) ([],l,k) (by simp [hM]) ⟨hM.symm,rfl,by simp,h0⟩ ?_;rintro ⟨pre,rest,k1⟩ ⟨h1,h2,h3,h4⟩;simp only at h1 h2 h3 h4;rcases rest with _|⟨⟨cL,bh,⟨fN,dX⟩,ec⟩,rest⟩
  ·unfold HC;simp only [jy,bD,zf,zh] at h1 h2;subst h1;refine Ud Oo ?_;repeat intro hc
   all_goals simp [F7,h2]
  ·unfold HC;simp only [jy,bD,nV,qE,za] at h1 h2 h3;have e_:=rR rest;have hw:=Wi ((pre.length:Int)+1);have ah:(pre.length:Int)<(pre.length:Int)+((rest.length:Int)+1):=by omega
   have bV:(pre++[nV k1 ⟨cL,bh,⟨fN,dX⟩,ec⟩]).length+rest.length=l.length:=by simp only [zb,za,ze];omega
   have bE:k1+(1+1+1+dN dX+ef ec)+bD rest=k+bD l:=by omega
   obtain ⟨w1,w2,w3,w4,w5,aQ,bf,aU,bW,bB,dB,bL,lA,nS,nh,ch,xg,xc,vh,hE,hZ⟩:=Jp k1 (dN dX) (ef ec) h4 (rX dX) (tU ec) (by omega);rw [hE] at h1 bE;try simp only [←aQ,←aU,←bB,←bL,←ch] at h1
   subst h1
   repeat' (first
    |with_reducible (first|refine wp_seq ?_|refine cJ ?_|refine wp_skip ?_|refine wp_exit ?_|refine wp_ret ?_|refine cH ?_|refine cI ?_|refine cG ?_|refine cp ?_|refine cq ?_|refine cn ?_|refine cE ?_|refine cD ?_|refine cF ?_|refine cB ?_|refine cA ?_|refine cx ?_|refine cw ?_|refine cz ?_|refine cy ?_)
    |(with_reducible refine cK fun K hK=>?_
      simp[bf,bW,dB,lA,nS,nh,←bL,xg,xc,vh,←ch,hw,ah]
      repeat' (with_reducible first|refine hK _ ?_|(refine bm ?_ ?_<;>(intro hc;(try rw [zd] at hc);first|(try simp [hc,bf,bW,dB,lA,nS,nh,←bL,xg,xc,vh,←ch,hw,ah]))))
      all_goals (clear hK;clear K))
    |(with_reducible refine cP ?_
      refine ⟨_,rfl,?_,?_⟩<;>(intro hc;(try simp at hc);skip)))
   exact ⟨(pre++[nV k1 ⟨cL,bh,⟨fN,dX⟩,ec⟩],rest,w5),by simp [nV,aQ,aU,bB,bL,ch],⟨by simp [nV,aQ,aU,bB,bL,ch],bE,bV,hZ⟩,by simp⟩
@[simp] theorem t193 (l:List ak) (k:Int) (h0:0≤k) (hc:k+b_ l≤4611686018427387904):Gw TT 193 [.one (.own (.sl 2 (l.map ak.e))),vi k]=some (vi (k+b_ l),[(0,0,.own (.sl 2 ((jB k l).map ak.e)))]):=by
 refine Ga Gx EB ?_;unfold EB;generalize hM:jB k l=M;have hlen:=yM l;refine Ud Oo ?_
 ·refine bn (σ:=List ak×List ak×Int) (fun s=>[(0,AV.pl 0 0 [],some (Rt.aR [C.own (D.sl 2 (s.1.map ak.e++s.2.1.map ak.e))])),(1,AV.v false (di s.2.2),none),(5,AV.v false (di ((s.1.length:Nat):Int)),none)]) (fun s=>M=s.1++jB s.2.2 s.2.1∧s.2.2+b_ s.2.1=k+b_ l∧s.1.length+s.2.1.length=l.length∧0≤s.2.2) (fun s=>s.2.1.length) ([],l,k) (by simp) ⟨hM.symm,rfl,by simp,h0⟩ ?_;rintro ⟨pre,rest,k1⟩ ⟨h1,h2,h3,h4⟩;simp only at h1 h2 h3 h4;rcases rest with _|⟨⟨br,ax⟩,rest⟩
  ·unfold HU;simp only [jB,b_,zf,zh] at h1 h2;subst h1;refine Ud Oo ?_;repeat intro hc
   all_goals simp [Gx,h2]
  ·unfold HU;simp only [jB,b_,n9,qH,za] at h1 h2 h3;have e_:=mT rest;have hw:=Wi ((pre.length:Int)+1);have ah:(pre.length:Int)<(pre.length:Int)+((rest.length:Int)+1):=by omega
   have bV:(pre++[n9 k1 ⟨br,ax⟩]).length+rest.length=l.length:=by simp only [zb,za,ze];omega
   have bE:k1+(1+aT ax)+b_ rest=k+b_ l:=by omega
   obtain ⟨w1,w2,aQ,bf,aU,ja,fb,nf,hE,hZ⟩:=Jw k1 (aT ax) h4 (il ax) (by omega);rw [hE] at h1 bE;try simp only [←aQ,←aU] at h1
   subst h1
   repeat' (first
    |with_reducible (first|refine wp_seq ?_|refine cJ ?_|refine wp_skip ?_|refine wp_exit ?_|refine wp_ret ?_|refine cH ?_|refine cI ?_|refine cG ?_|refine cp ?_|refine cq ?_|refine cn ?_|refine cE ?_|refine cD ?_|refine cF ?_|refine cB ?_|refine cA ?_|refine cx ?_|refine cw ?_|refine cz ?_|refine cy ?_)
    |(with_reducible refine cK fun K hK=>?_
      simp[bf,ja,fb,nf,←aU,hw,ah]
      repeat' (with_reducible first|refine hK _ ?_|(refine bm ?_ ?_<;>(intro hc;(try rw [zd] at hc);first|(try simp [hc,bf,ja,fb,nf,←aU,hw,ah]))))
      all_goals (clear hK;clear K))
    |(with_reducible refine cP ?_
      refine ⟨_,rfl,?_,?_⟩<;>(intro hc;(try simp at hc);skip)))
   exact ⟨(pre++[n9 k1 ⟨br,ax⟩],rest,w2),by simp [n9,aQ,aU],⟨by simp [n9,aQ,aU],bE,bV,hZ⟩,by simp⟩
@[simp] theorem t178 (l:List ak) (k:Int) (h0:0≤k) (hc:k+b_ l≤4611686018427387904):Gw TT 178 [.one (.ro k0 (.sl 2 ((jB k l).map ak.e))),vi k]=some (vi (k+b_ l),[]):=by
 refine Ga Gf Em ?_;unfold Em;generalize hM:jB k l=M;have hlen:=yM l;refine Ud Oo ?_
 ·refine bn (σ:=List ak×List ak×Int) (fun s=>[(0,AV.v k0 (D.sl 2 (M.map ak.e)),none),(1,AV.v false (di s.2.2),none),(5,AV.v false (di ((s.1.length:Nat):Int)),none)]) (fun s=>M=s.1++jB s.2.2 s.2.1∧s.2.2+b_ s.2.1=k+b_ l∧s.1.length+s.2.1.length=l.length∧0≤s.2.2) (fun s=>s.2.1.length) ([],l,k) (by simp [hM]) ⟨hM.symm,rfl,by simp,h0⟩ ?_;rintro ⟨pre,rest,k1⟩ ⟨h1,h2,h3,h4⟩;simp only at h1 h2 h3 h4;rcases rest with _|⟨⟨br,ax⟩,rest⟩
  ·unfold HJ;simp only [jB,b_,zf,zh] at h1 h2;subst h1;refine Ud Oo ?_;repeat intro hc
   all_goals simp [Gf,h2]
  ·unfold HJ;simp only [jB,b_,n9,qH,za] at h1 h2 h3;have e_:=mT rest;have hw:=Wi ((pre.length:Int)+1);have ah:(pre.length:Int)<(pre.length:Int)+((rest.length:Int)+1):=by omega
   have bV:(pre++[n9 k1 ⟨br,ax⟩]).length+rest.length=l.length:=by simp only [zb,za,ze];omega
   have bE:k1+(1+aT ax)+b_ rest=k+b_ l:=by omega
   obtain ⟨w1,w2,aQ,bf,aU,ja,fb,nf,hE,hZ⟩:=Jw k1 (aT ax) h4 (il ax) (by omega);rw [hE] at h1 bE;try simp only [←aQ,←aU] at h1
   subst h1
   repeat' (first
    |with_reducible (first|refine wp_seq ?_|refine cJ ?_|refine wp_skip ?_|refine wp_exit ?_|refine wp_ret ?_|refine cH ?_|refine cI ?_|refine cG ?_|refine cp ?_|refine cq ?_|refine cn ?_|refine cE ?_|refine cD ?_|refine cF ?_|refine cB ?_|refine cA ?_|refine cx ?_|refine cw ?_|refine cz ?_|refine cy ?_)
    |(with_reducible refine cK fun K hK=>?_
      simp[bf,ja,fb,nf,←aU,hw,ah]
      repeat' (with_reducible first|refine hK _ ?_|(refine bm ?_ ?_<;>(intro hc;(try rw [zd] at hc);first|(try simp [hc,bf,ja,fb,nf,←aU,hw,ah]))))
      all_goals (clear hK;clear K))
    |(with_reducible refine cP ?_
      refine ⟨_,rfl,?_,?_⟩<;>(intro hc;(try simp at hc);skip)))
   exact ⟨(pre++[n9 k1 ⟨br,ax⟩],rest,w2),by simp [n9,aQ,aU],⟨by simp [n9,aQ,aU],bE,bV,hZ⟩,by simp⟩
@[simp] theorem t189 (h0:0≤k) (hc:k+aX ae≤4611686018427387904):Gw TT 189 [.st [.ro false (di fM),.own (.sl 5 (ae.map ay.e))],vi k]=some (vi (k+aX ae),[(0,1,.own (.sl 5 ((h_ (k) ae).map ay.e)))]):=by
 refine Ga Gs Ex ?_;unfold Ex;have sk:=kJ ae;have ja:0≤k:=by omega
 have fb:k+aX ae≤4611686018427387904:=by omega
 refine Ud (J2 ja fb) ?_;simp [Gs]
@[simp] theorem t174 (h0:0≤k) (hc:k+aX ae≤4611686018427387904):Gw TT 174 [.st [.ro false (di fM),.ro k0 (.sl 5 ((h_ (k) ae).map ay.e))],vi k]=some (vi (k+aX ae),[]):=by
 refine Ga Gb Ei ?_;unfold Ei;have sk:=kJ ae;have ja:0≤k:=by omega
 have fb:k+aX ae≤4611686018427387904:=by omega
 refine Ud (J2 ja fb) ?_;repeat intro hc
 simp [Gb]
@[simp] theorem t186 (h0:0≤k) (hc:k+aj eM≤4611686018427387904):Gw TT 186 [.st [.own (.sl 1 (eM.map ei)),.ro false (di qw),.ro false (di qv)],vi k]=some (vi (k+aj eM),[(0,0,.own (.sl 1 ((fw (k) eM).map ei)))]):=by
 refine Ga Gp Eu ?_;unfold Eu;have KX:=eu eM;have pR:0≤k:=by omega
 have nQ:k+aj eM≤4611686018427387904:=by omega
 refine Ud (J2 pR nQ) ?_;simp [Gp]
@[simp] theorem t171 (h0:0≤k) (hc:k+aj eM≤4611686018427387904):Gw TT 171 [.st [.ro k0 (.sl 1 ((fw (k) eM).map ei)),.ro false (di qw),.ro false (di qv)],vi k]=some (vi (k+aj eM),[]):=by
 refine Ga F9 Ef ?_;unfold Ef;have KX:=eu eM;have pR:0≤k:=by omega
 have nQ:k+aj eM≤4611686018427387904:=by omega
 refine Ud (J2 pR nQ) ?_;repeat intro hc
 simp [F9]
@[simp] theorem abL {α:Type} {n:Nat} (l r:List α) (x:α) (h:n=l.length+(r.length+1)):(l++x::r).take n=l++x::r:=by
 rw [zt];simp only [zb,za];omega
@[simp] theorem WM {α:Type} {n:Nat} (l r:List α) (x:α) (h:n=l.length+1):(l++x::r).drop n=r:=by
 subst h;rw [List.drop_append];simp
@[simp] theorem abM {α β:Type} (f:α→β) (l:List α):(l.map f).take l.length=l.map f:=by
 rw [zt];simp
@[simp] theorem W3 {α:Type} (f:α→List D) (l:List α) (n:Nat) (h:∀x,(f x).all D.bC=true):jm ((l.map f).drop n)=true:=by
 rw [←List.map_drop];exact Ka f _ h
@[simp] theorem W6 {α:Type} (f:α→List D) (l:List α) (n:Nat) (h:∀x,(f x).all D.bC=true):jm ((l.map f).take n)=true:=by
 rw [←List.map_take];exact Ka f _ h
@[simp] theorem t74 (l:List ay) (h:l.length≤1048576):Gw TT 74 [.one (.ro k0 (.sl 5 (l.map ay.e)))]=some (.one (.own (.sl 5 (l.map ay.e))),[]):=by
 refine dw (F:=Ho) rfl rfl ?_;show Wp _ FD _ _;unfold FD
 repeat' first|refine Zs ?_|((with_reducible refine Xk fun K k=>?_);simp [h];(repeat' (with_reducible first|refine k _ ?_|(refine bm ?_ ?_<;>(intro hc;(try rw [zd] at hc);first|(exfalso;omega)|(try simp [hc,h])))));all_goals clear k K)|refine Xt rfl ?_|refine Xf rfl ?_
 simp [Ho]
@[simp] theorem t71 (h:ae.length≤1048576):Gw TT 71 [.st [.ro false (di fM),.ro k0 (.sl 5 (ae.map ay.e))]]=some (.st [.ro false (di fM),.own (.sl 5 (ae.map ay.e))],[]):=by
 refine dw (F:=Hl) rfl rfl ?_;show Wp _ FA _ _;unfold FA;have hq:ae.length*40≤70368744177664:=by omega
 repeat' first|refine Zs ?_|((with_reducible refine Xk fun K k=>?_);simp [h,hq];refine k _ ?_;clear k K)|refine Xt rfl ?_|refine Xf rfl ?_
 simp [Hl]
@[simp] theorem abw (h:ae.length≤1048576):Gw TT 368 [.st [.ro false (di fM),.ro k0 (.sl 5 (ae.map ay.e))]]=some (.st [.ro false (di fM),.own (.sl 5 (ae.map ay.e))],[]):=by
 refine dw (F:=G8) rfl rfl ?_;show Wp _ Fh _ _;unfold Fh;have hq:ae.length*40≤70368744177664:=by omega
 repeat' first|refine Zs ?_|((with_reducible refine Xk fun K k=>?_);simp [h,hq];refine k _ ?_;clear k K)|refine Xt rfl ?_|refine Xf rfl ?_
 simp [G8]
@[simp] theorem t76 (l:List af) (h:l.length≤1048576):Gw TT 76 [.one (.ro k0 (.sl 3 (l.map af.e)))]=some (.one (.own (.sl 3 (l.map af.e))),[]):=by
 refine dw (F:=Hq) rfl rfl ?_;show Wp _ FF _ _;unfold FF
 repeat' first|refine Zs ?_|((with_reducible refine Xk fun K k=>?_);simp [h];(repeat' (with_reducible first|refine k _ ?_|(refine bm ?_ ?_<;>(intro hc;(try rw [zd] at hc);first|(exfalso;omega)|(try simp [hc,h])))));all_goals clear k K)|refine Xt rfl ?_|refine Xf rfl ?_
 simp [Hq]
@[simp] theorem t69 (h:l.length≤1048576):Gw TT 69 [.one (.ro k0 (.sl 1 (l.map eb)))]=some (.one (.own (.sl 1 (l.map eb))),[]):=by
 refine dw (F:=Hj) rfl rfl ?_;show Wp _ Fy _ _;unfold Fy
 repeat' first|refine Zs ?_|((with_reducible refine Xk fun K k=>?_);simp [h];(repeat' (with_reducible first|refine k _ ?_|(refine bm ?_ ?_<;>(intro hc;(try rw [zd] at hc);first|(exfalso;omega)|(try simp [hc,h])))));all_goals clear k K)|refine Xt rfl ?_|refine Xf rfl ?_
 simp [Hj]
@[simp] theorem t70 (ae:List aC) (h:ae.length≤1048576) (hs:aC.aq ae):Gw TT 70 [.st [.ro false (di kz),.ro k0 (.sl 2 (ae.map aC.e))]]=some (.st [.ro false (di kz),.own (.sl 2 (ae.map aC.e))],[]):=by
 refine dw (F:=Hk) rfl rfl ?_;show Wp _ Fz _ _;unfold Fz
 repeat' first|refine Zs ?_|((with_reducible refine Xk fun K k=>?_);simp;(repeat' (with_reducible first|refine k _ ?_|(refine bm ?_ ?_<;>(intro hc;(try rw [zd] at hc);first|(exfalso;omega)|(try simp [hc])))));all_goals clear k K)|refine Xt rfl ?_|refine Xf rfl ?_|(refine We rfl ?_ ?_<;>(intro hc;(try simp at hc);(all_goals first|(exfalso;omega)|skip)))
 refine bn (σ:=List (aC)×List (aC)×List (aC)) (fun s=>[(1,AV.bx 1 0,some (Rt.bx [.ro false (di kz),.ro k0 (.sl 2 (ae.map aC.e))])),(2,AV.bx 2 0,some (Rt.bx [.ro false (di 0),.own (.sl 2 [])])),(3,AV.bx 3 0,some (Rt.bx [.ro false (di kz),.own (.sl 2 ((s.2.2).map aC.e))])),(10,AV.v k0 (D.sl 2 (ae.map aC.e)),none),(11,AV.v false (di (ae.length:Nat)),none),(12,AV.v false (di ((s.1.length:Nat):Int)),none)]) (fun s=>ae=s.1++s.2.1∧s.2.2++s.2.1=ae∧s.2.2.length≤s.1.length) (fun s=>s.2.1.length) ([],ae,[]) (by simp) ⟨rfl,by first|rfl|simp,zq _⟩ ?_;rintro ⟨pre,rest,a⟩ ⟨h1,h2,h3⟩;simp only at h1 h2 h3;subst h1;simp only [zb,za] at h;rcases rest with _|⟨d,rest⟩
 ·unfold Im;try simp only [zf,zf] at h2
  repeat' first|refine Zs ?_|((with_reducible refine Xk fun K k=>?_);simp;(repeat' (with_reducible first|refine k _ ?_|(refine bm ?_ ?_<;>(intro hc;(try rw [zd] at hc);first|(exfalso;omega)|(try simp [hc])))));all_goals clear k K)|refine Xt rfl ?_|refine Xf rfl ?_|(refine We rfl ?_ ?_<;>(intro hc;(try simp at hc);(all_goals first|(exfalso;omega)|skip)))
  simp_all [Hk]
 ·unfold Im;simp only [za] at h;try simp only [zf] at h2
  have hw:IntKind.wrap .i64 ((pre.length:Int)+1)=(pre.length:Int)+1:=wrap_i64 (by omega) (by omega);have hd:=hs d (by simp);simp only [aC.sm,and_assoc] at hd;obtain ⟨we,wE⟩:=hd;have fa:(a.length+1)*32≤70368744177664:=by omega
  have j4:d.L.length*32≤70368744177664:=by omega
  repeat' first|refine Zs ?_|((with_reducible refine Xk fun K k=>?_);simp [hw,we,wE,fa,j4];(repeat' (with_reducible first|refine k _ ?_|(refine bm ?_ ?_<;>(intro hc;(try rw [zd] at hc);first|(exfalso;omega)|(try simp [hc,hw,we,wE,fa,j4])))));all_goals clear k K)|refine Xt rfl ?_|refine Xf rfl ?_|(refine We rfl ?_ ?_<;>(intro hc;(try simp at hc);(all_goals first|(exfalso;omega)|skip)))
  (refine ⟨(pre++[d],rest,a++[d]),?_,⟨?_,?_,?_⟩,?_⟩;(focus (first|(simp;done)|(simp_all;done)));(focus (simp;done));(focus (refine zr ?_ h2;clear h2;first|(simp [*];done)|(simp_all;done)));(focus (simp only [zb,za,ze];omega));(focus (simp;done)))
@[simp] theorem t359 (ae:List aC) (h:ae.length≤1048576) (hs:aC.aq ae):Gw TT 359 [.st [.ro false (di kz),.ro k0 (.sl 2 (ae.map aC.e))]]=some (.st [.ro false (di kz),.own (.sl 2 (ae.map aC.e))],[]):=by
 refine dw (F:=A') rfl rfl ?_;show Wp _ Fe _ _;unfold Fe
 repeat' first|refine Zs ?_|((with_reducible refine Xk fun K k=>?_);simp;(repeat' (with_reducible first|refine k _ ?_|(refine bm ?_ ?_<;>(intro hc;(try rw [zd] at hc);first|(exfalso;omega)|(try simp [hc])))));all_goals clear k K)|refine Xt rfl ?_|refine Xf rfl ?_|(refine We rfl ?_ ?_<;>(intro hc;(try simp at hc);(all_goals first|(exfalso;omega)|skip)))
 refine bn (σ:=List (aC)×List (aC)×List (aC)) (fun s=>[(1,AV.bx 1 0,some (Rt.bx [.ro false (di kz),.ro k0 (.sl 2 (ae.map aC.e))])),(2,AV.bx 2 0,some (Rt.bx [.ro false (di 0),.own (.sl 2 [])])),(3,AV.bx 3 0,some (Rt.bx [.ro false (di kz),.own (.sl 2 ((s.2.2).map aC.e))])),(4,AV.v false (di ((s.1.length:Nat):Int)),none)]) (fun s=>ae=s.1++s.2.1∧s.2.2++s.2.1=ae∧s.2.2.length≤s.1.length) (fun s=>s.2.1.length) ([],ae,[]) (by simp) ⟨rfl,by first|rfl|simp,zq _⟩ ?_;rintro ⟨pre,rest,a⟩ ⟨h1,h2,h3⟩;simp only at h1 h2 h3;subst h1;simp only [zb,za] at h;rcases rest with _|⟨d,rest⟩
 ·unfold Ib;try simp only [zf,zf] at h2
  repeat' first|refine Zs ?_|((with_reducible refine Xk fun K k=>?_);simp;(repeat' (with_reducible first|refine k _ ?_|(refine bm ?_ ?_<;>(intro hc;(try rw [zd] at hc);first|(exfalso;omega)|(try simp [hc])))));all_goals clear k K)|refine Xt rfl ?_|refine Xf rfl ?_|(refine We rfl ?_ ?_<;>(intro hc;(try simp at hc);(all_goals first|(exfalso;omega)|skip)))
  simp_all [A']
 ·unfold Ib;simp only [za] at h;try simp only [zf] at h2
  have hw:IntKind.wrap .i64 ((pre.length:Int)+1)=(pre.length:Int)+1:=wrap_i64 (by omega) (by omega);have hd:=hs d (by simp);simp only [aC.sm,and_assoc] at hd;obtain ⟨we,wE⟩:=hd;have fa:(a.length+1)*32≤70368744177664:=by omega
  have j4:d.L.length*32≤70368744177664:=by omega
  repeat' first|refine Zs ?_|((with_reducible refine Xk fun K k=>?_);simp [hw,we,wE,fa,j4];(repeat' (with_reducible first|refine k _ ?_|(refine bm ?_ ?_<;>(intro hc;(try rw [zd] at hc);first|(exfalso;omega)|(try simp [hc,hw,we,wE,fa,j4])))));all_goals clear k K)|refine Xt rfl ?_|refine Xf rfl ?_|(refine We rfl ?_ ?_<;>(intro hc;(try simp at hc);(all_goals first|(exfalso;omega)|skip)))
  all_goals first|(refine ⟨(pre++[d],rest,a++[d]),?_,⟨?_,?_,?_⟩,?_⟩;(focus (first|(simp;done)|(simp_all;done)));(focus (simp;done));(focus (refine zr ?_ h2;clear h2;first|(simp [*];done)|(simp_all;done)));(focus (simp only [zb,za,ze];omega));(focus (simp;done)))|(simp_all [A'];done)
@[simp] theorem t73 (l:List ao) (h:l.length≤1048576) (hs:ao.aq l):Gw TT 73 [.one (.ro k0 (.sl 5 (l.map ao.e)))]=some (.one (.own (.sl 5 (l.map ao.e))),[]):=by
 refine dw (F:=Hn) rfl rfl ?_;show Wp _ FC _ _;unfold FC
 repeat' first|refine Zs ?_|((with_reducible refine Xk fun K k=>?_);simp;(repeat' (with_reducible first|refine k _ ?_|(refine bm ?_ ?_<;>(intro hc;(try rw [zd] at hc);first|(exfalso;omega)|(try simp [hc])))));all_goals clear k K)|refine Xt rfl ?_|refine Xf rfl ?_|(refine We rfl ?_ ?_<;>(intro hc;(try simp at hc);(all_goals first|(exfalso;omega)|skip)))
 refine bn (σ:=List (ao)×List (ao)×List (ao)) (fun s=>[(3,AV.pl 3 0 [],some (Rt.aR [C.own (D.sl 5 ((s.2.2).map ao.e))])),(7,AV.v k0 (D.sl 5 (l.map ao.e)),none),(8,AV.v false (di (l.length:Nat)),none),(9,AV.v false (di ((s.1.length:Nat):Int)),none)]) (fun s=>l=s.1++s.2.1∧s.2.2++s.2.1=l∧s.2.2.length≤s.1.length) (fun s=>s.2.1.length) ([],l,[]) (by simp) ⟨rfl,by first|rfl|simp,zq _⟩ ?_;rintro ⟨pre,rest,a⟩ ⟨h1,h2,h3⟩;simp only at h1 h2 h3;subst h1;simp only [zb,za] at h;rcases rest with _|⟨d,rest⟩
 ·unfold Io;try simp only [zf,zf] at h2
  repeat' first|refine Zs ?_|((with_reducible refine Xk fun K k=>?_);simp;(repeat' (with_reducible first|refine k _ ?_|(refine bm ?_ ?_<;>(intro hc;(try rw [zd] at hc);first|(exfalso;omega)|(try simp [hc])))));all_goals clear k K)|refine Xt rfl ?_|refine Xf rfl ?_|(refine We rfl ?_ ?_<;>(intro hc;(try simp at hc);(all_goals first|(exfalso;omega)|skip)))
  simp_all [Hn]
 ·unfold Io;simp only [za] at h;try simp only [zf] at h2
  have hw:IntKind.wrap .i64 ((pre.length:Int)+1)=(pre.length:Int)+1:=wrap_i64 (by omega) (by omega);have hd:=hs d (by simp);simp only [ao.sm,fm.sm,and_assoc] at hd;obtain ⟨wb,wD,wc⟩:=hd;have fa:(a.length+1)*72≤70368744177664:=by omega
  have j4:d.G.length≤70368744177664:=by omega
  repeat' first|refine Zs ?_|((with_reducible refine Xk fun K k=>?_);simp [hw,wb,wD,wc,fa,j4];(repeat' (with_reducible first|refine k _ ?_|(refine bm ?_ ?_<;>(intro hc;(try rw [zd] at hc);first|(exfalso;omega)|(try simp [hc,hw,wb,wD,wc,fa,j4])))));all_goals clear k K)|refine Xt rfl ?_|refine Xf rfl ?_|(refine We rfl ?_ ?_<;>(intro hc;(try simp at hc);(all_goals first|(exfalso;omega)|skip)))
  (refine ⟨(pre++[d],rest,a++[d]),?_,⟨?_,?_,?_⟩,?_⟩;(focus (first|(simp;done)|(simp_all;done)));(focus (simp;done));(focus (refine zr ?_ h2;clear h2;first|(simp [*];done)|(simp_all;done)));(focus (simp only [zb,za,ze];omega));(focus (simp;done)))
@[simp] theorem t363 (De:fj.length≤1048576) (Dn:aC.aq fj) (Df:gW.length≤1048576):Gw TT 363 [.st [.ro false (di jg),.ro false (di ca),.ro false (di oC),.ro k0 (.sl 2 (fj.map aC.e)),.ro k0 (.sl 1 (gW.map eb))]]=some (.st [.ro false (di jg),.ro false (di ca),.ro false (di oC),.own (.sl 2 (fj.map aC.e)),.own (.sl 1 (gW.map eb))],[]):=by
 refine dw (F:=G7) rfl rfl ?_;show Wp _ Fg _ _;unfold Fg;have hq:gW.length≤70368744177664:=by omega
 repeat' first|refine Zs ?_|((with_reducible refine Xk fun K k=>?_);simp [hq,De,Dn,Df];refine k _ ?_;clear k K)|refine Xt rfl ?_|refine Xf rfl ?_
 simp [G7]
@[simp] theorem t362 (l:List ao) (h:l.length≤1048576) (hs:ao.aq l):Gw TT 362 [.one (.ro k0 (.sl 5 (l.map ao.e)))]=some (.one (.own (.sl 5 (l.map ao.e))),[]):=by
 refine dw (F:=G6) rfl rfl ?_;show Wp _ Ff _ _;unfold Ff
 repeat' first|refine Zs ?_|((with_reducible refine Xk fun K k=>?_);simp;(repeat' (with_reducible first|refine k _ ?_|(refine bm ?_ ?_<;>(intro hc;(try rw [zd] at hc);first|(exfalso;omega)|(try simp [hc])))));all_goals clear k K)|refine Xt rfl ?_|refine Xf rfl ?_|(refine We rfl ?_ ?_<;>(intro hc;(try simp at hc);(all_goals first|(exfalso;omega)|skip)))
 refine bn (σ:=List (ao)×List (ao)×List (ao)) (fun s=>[(0,AV.v k0 (D.sl 5 (l.map ao.e)),none),(3,AV.pl 3 0 [],some (Rt.aR [C.own (D.sl 5 ((s.2.2).map ao.e))])),(4,AV.v false (di ((s.1.length:Nat):Int)),none)]) (fun s=>l=s.1++s.2.1∧s.2.2++s.2.1=l∧s.2.2.length≤s.1.length) (fun s=>s.2.1.length) ([],l,[]) (by simp) ⟨rfl,by first|rfl|simp,zq _⟩ ?_;rintro ⟨pre,rest,a⟩ ⟨h1,h2,h3⟩;simp only at h1 h2 h3;subst h1;simp only [zb,za] at h;rcases rest with _|⟨d,rest⟩
 ·unfold Ic;try simp only [zf,zf] at h2
  repeat' first|refine Zs ?_|((with_reducible refine Xk fun K k=>?_);simp;(repeat' (with_reducible first|refine k _ ?_|(refine bm ?_ ?_<;>(intro hc;(try rw [zd] at hc);first|(exfalso;omega)|(try simp [hc])))));all_goals clear k K)|refine Xt rfl ?_|refine Xf rfl ?_|(refine We rfl ?_ ?_<;>(intro hc;(try simp at hc);(all_goals first|(exfalso;omega)|skip)))
  simp_all [G6]
 ·unfold Ic;simp only [za] at h;try simp only [zf] at h2
  have hw:IntKind.wrap .i64 ((pre.length:Int)+1)=(pre.length:Int)+1:=wrap_i64 (by omega) (by omega);have hd:=hs d (by simp);simp only [ao.sm,fm.sm,and_assoc] at hd;obtain ⟨wb,wD,wc⟩:=hd;have fa:(a.length+1)*72≤70368744177664:=by omega
  have j4:d.G.length≤70368744177664:=by omega
  repeat' first|refine Zs ?_|((with_reducible refine Xk fun K k=>?_);simp [hw,wb,wD,wc,fa,j4];(repeat' (with_reducible first|refine k _ ?_|(refine bm ?_ ?_<;>(intro hc;(try rw [zd] at hc);first|(exfalso;omega)|(try simp [hc,hw,wb,wD,wc,fa,j4])))));all_goals clear k K)|refine Xt rfl ?_|refine Xf rfl ?_|(refine We rfl ?_ ?_<;>(intro hc;(try simp at hc);(all_goals first|(exfalso;omega)|skip)))
  (refine ⟨(pre++[d],rest,a++[d]),?_,⟨?_,?_,?_⟩,?_⟩;(focus (first|(simp;done)|(simp_all;done)));(focus (simp;done));(focus (refine zr ?_ h2;clear h2;first|(simp [*];done)|(simp_all;done)));(focus (simp only [zb,za,ze];omega));(focus (simp;done)))
def ku (n s:Int):Bool:=decide (n=-1∧0<s)
def mG (n s:Int):Int:=if n=-1∧0<s then s else n
@[simp] theorem t54 (n s:Int):Gw TT 54 [vi n,vi s]=some (.bu [vi (mG n s),vb (ku n s)],[]):=by
 refine dw (F:=x6) rfl rfl ?_;show Wp _ Fv _ _;unfold Fv;by_cases h1:n=-1
 ·by_cases h2:0<s
  ·repeat' first|refine Zs ?_|((with_reducible refine Xk fun K k=>?_);simp [h1,h2];refine k _ ?_;clear k K)|refine Xt rfl ?_|refine Xf rfl ?_
   simp [x6,mG,ku,h1,h2]
  ·repeat' first|refine Zs ?_|((with_reducible refine Xk fun K k=>?_);simp [h1,h2];refine k _ ?_;clear k K)|refine Xt rfl ?_|refine Xf rfl ?_
   simp [x6,mG,ku,h1,h2]
 ·repeat' first|refine Zs ?_|((with_reducible refine Xk fun K k=>?_);simp [h1];refine k _ ?_;clear k K)|refine Xt rfl ?_|refine Xf rfl ?_
  simp [x6,mG,ku,h1]
@[simp] theorem t335 (n s:Int):Gw TT 335 [vi n,vi s]=some (.bu [vi (mG n s),vb (ku n s)],[]):=by
 refine dw (F:=xW) rfl rfl ?_;show Wp _ E_ _ _;unfold E_;by_cases h1:n=-1
 ·by_cases h2:0<s
  ·repeat' first|refine Zs ?_|((with_reducible refine Xk fun K k=>?_);simp [h1,h2];refine k _ ?_;clear k K)|refine Xt rfl ?_|refine Xf rfl ?_|(refine We rfl ?_ ?_<;>(intro hc;(try simp at hc);(all_goals first|(exfalso;omega)|skip)))
   simp [xW,mG,ku,h1,h2]
  ·repeat' first|refine Zs ?_|((with_reducible refine Xk fun K k=>?_);simp [h1,h2];refine k _ ?_;clear k K)|refine Xt rfl ?_|refine Xf rfl ?_|(refine We rfl ?_ ?_<;>(intro hc;(try simp at hc);(all_goals first|(exfalso;omega)|skip)))
   simp [xW,mG,ku,h1,h2]
 ·repeat' first|refine Zs ?_|((with_reducible refine Xk fun K k=>?_);simp [h1];refine k _ ?_;clear k K)|refine Xt rfl ?_|refine Xf rfl ?_|(refine We rfl ?_ ?_<;>(intro hc;(try simp at hc);(all_goals first|(exfalso;omega)|skip)))
  simp [xW,mG,ku,h1]
mutual
def qG:aa→Int
 |⟨_,_,_,_,l⟩=>1+1+1+1+1+1+bc l
def bc:List aa→Int
 |[]=>0
 |x::l=>qG x+bc l
end
mutual
def nZ:Int→aa→aa
 |k,⟨bh,dI,a_,⟨dL,dJ,dK⟩,ax⟩=>⟨k,k+1,k+1+1,⟨k+1+1+1,k+1+1+1+1,rr (k+1+1+1+1+1)⟩,hY (k+1+1+1+1+1+1) ax⟩
def hY:Int→List aa→List aa
 |_,[]=>[]
 |k,x::l=>nZ k x::hY (k+qG x) l
end
mutual
theorem JL:∀x:aa,1≤qG x
 |⟨_,_,_,_,l⟩=>by have:=jl l;simp only [qG];omega
theorem jl:∀l:List aa,0≤bc l
 |[]=>by simp [bc]
 |x::l=>by have h1:=JL x;have h2:=jl l;simp only [bc];omega
end
theorem BY:∀l:List aa,(l.length:Int)≤bc l
 |[]=>by simp [bc]
 |x::l=>by have h1:=JL x;have h2:=BY l;simp only [bc,za];omega
@[simp] theorem SN:∀(k:Int) (l:List aa),(hY k l).length=l.length
 |_,[]=>by simp [hY]
 |k,x::l=>by simp [hY,SN]
theorem Ju (k1 en:Int) (h0:0≤k1) (t_:0≤en) (hB:k1+(1+1+1+1+1+1+en)≤4611686018427387904):
 ∃w1 w2 w3 w4 w5 w6 w7:Int,w1=k1+1∧IntKind.wrap .i64 (k1+1)=w1∧w2=w1+1∧IntKind.wrap .i64 (w1+1)=w2∧w3=w2+1∧IntKind.wrap .i64 (w2+1)=w3∧w4=w3+1∧IntKind.wrap .i64 (w3+1)=w4∧w5=w4+1∧IntKind.wrap .i64 (w4+1)=w5∧w6=w5+1∧IntKind.wrap .i64 (w5+1)=w6∧w5≤4611686018427387904∧w7=w6+en∧0≤w6∧w7≤4611686018427387904∧¬w7<0∧k1+(1+1+1+1+1+1+en)=w7∧0≤w7:=
 ⟨k1+1,k1+1+1,k1+1+1+1,k1+1+1+1+1,k1+1+1+1+1+1,k1+1+1+1+1+1+1,k1+1+1+1+1+1+1+en,rfl,wrap_i64 (by omega) (by omega),rfl,wrap_i64 (by omega) (by omega),rfl,wrap_i64 (by omega) (by omega),rfl,wrap_i64 (by omega) (by omega),rfl,wrap_i64 (by omega) (by omega),rfl,wrap_i64 (by omega) (by omega),by omega,rfl,by omega,by omega,by omega,by omega,by omega⟩
def qJ:au→Int
 |⟨a_,fX,fP,aL,br,⟨cR,⟨cT,cS,cU,⟨cX,cV,cW⟩,aY⟩,cQ,a9⟩,gk,gn,ax,fQ,fT,cY,dO,fW,gp,ed⟩=>1+1+1+aT aL+1+1+1+1+1+1+1+1+bc aY+1+aj a9+1+1+aX ax+1+1+1+1+1+1+b_ ed
def db:List au→Int
 |[]=>0
 |x::l=>qJ x+db l
def oe:Int→au→au
 |k,⟨a_,fX,fP,aL,br,⟨cR,⟨cT,cS,cU,⟨cX,cV,cW⟩,aY⟩,cQ,a9⟩,gk,gn,ax,fQ,fT,cY,dO,fW,gp,ed⟩=>⟨k,k+1,k+1+1,iI (k+1+1+1) aL,k+1+1+1+aT aL,⟨k+1+1+1+aT aL+1,⟨k+1+1+1+aT aL+1+1,k+1+1+1+aT aL+1+1+1,k+1+1+1+aT aL+1+1+1+1,⟨k+1+1+1+aT aL+1+1+1+1+1,k+1+1+1+aT aL+1+1+1+1+1+1,rr (k+1+1+1+aT aL+1+1+1+1+1+1+1)⟩,hY (k+1+1+1+aT aL+1+1+1+1+1+1+1+1) aY⟩,k+1+1+1+aT aL+1+1+1+1+1+1+1+1+bc aY,fw (k+1+1+1+aT aL+1+1+1+1+1+1+1+1+bc aY+1) a9⟩,k+1+1+1+aT aL+1+1+1+1+1+1+1+1+bc aY+1+aj a9,k+1+1+1+aT aL+1+1+1+1+1+1+1+1+bc aY+1+aj a9+1,h_ (k+1+1+1+aT aL+1+1+1+1+1+1+1+1+bc aY+1+aj a9+1+1) ax,k+1+1+1+aT aL+1+1+1+1+1+1+1+1+bc aY+1+aj a9+1+1+aX ax,k+1+1+1+aT aL+1+1+1+1+1+1+1+1+bc aY+1+aj a9+1+1+aX ax+1,k+1+1+1+aT aL+1+1+1+1+1+1+1+1+bc aY+1+aj a9+1+1+aX ax+1+1,k+1+1+1+aT aL+1+1+1+1+1+1+1+1+bc aY+1+aj a9+1+1+aX ax+1+1+1,k+1+1+1+aT aL+1+1+1+1+1+1+1+1+bc aY+1+aj a9+1+1+aX ax+1+1+1+1,((k+1+1+1+aT aL+1+1+1+1+1+1+1+1+bc aY+1+aj a9+1+1+aX ax+1+1+1+1+1).tmod 3==0),jB (k+1+1+1+aT aL+1+1+1+1+1+1+1+1+bc aY+1+aj a9+1+1+aX ax+1+1+1+1+1+1) ed⟩
def jC:Int→List au→List au
 |_,[]=>[]
 |k,x::l=>oe k x::jC (k+qJ x) l
theorem NW:∀x:au,1≤qJ x
 |⟨a_,fX,fP,aL,br,⟨cR,⟨cT,cS,cU,⟨cX,cV,cW⟩,aY⟩,cQ,a9⟩,gk,gn,ax,fQ,fT,cY,dO,fW,gp,ed⟩=>by have Cj:=il aL;have Ci:=jl aY;have Ch:=eu a9;have t_:=kJ ax;have OD:=mT ed;simp only [qJ];omega
theorem yO:∀l:List au,(l.length:Int)≤db l
 |[]=>by simp [db]
 |x::l=>by have h1:=NW x;have h2:=yO l;simp only [db,za];omega
theorem rY (l:List au):0≤db l:=by have:=yO l;omega
@[simp] theorem SR:∀(k:Int) (l:List au),(jC k l).length=l.length
 |_,[]=>by simp [jC]
 |k,x::l=>by simp [jC,SR]
theorem chainTask (k1 bQ dM dY en uI:Int) (h0:0≤k1) (Cj:0≤bQ) (Ci:0≤dM) (Ch:0≤dY) (t_:0≤en) (OD:0≤uI) (hB:k1+(1+1+1+bQ+1+1+1+1+1+1+1+1+dM+1+dY+1+1+en+1+1+1+1+1+1+uI)≤4611686018427387904):
 ∃w1 w2 w3 w4 w5 w6 w7 w8 w9 iK jI jJ jK kS kv lG lH kT kU lI lJ lK lL lM iL:Int,w1=k1+1∧IntKind.wrap .i64 (k1+1)=w1∧w2=w1+1∧IntKind.wrap .i64 (w1+1)=w2∧w3=w2+1∧IntKind.wrap .i64 (w2+1)=w3∧w4=w3+bQ∧0≤w3∧w4≤4611686018427387904∧¬w4<0∧w5=w4+1∧IntKind.wrap .i64 (w4+1)=w5∧w6=w5+1∧IntKind.wrap .i64 (w5+1)=w6∧w7=w6+1∧IntKind.wrap .i64 (w6+1)=w7∧w8=w7+1∧IntKind.wrap .i64 (w7+1)=w8∧w9=w8+1∧IntKind.wrap .i64 (w8+1)=w9∧iK=w9+1∧IntKind.wrap .i64 (w9+1)=iK∧jI=iK+1∧IntKind.wrap .i64 (iK+1)=jI∧jJ=jI+1∧IntKind.wrap .i64 (jI+1)=jJ∧jI≤4611686018427387904∧jK=jJ+dM∧0≤jJ∧jK≤4611686018427387904∧¬jK<0∧kS=jK+1∧IntKind.wrap .i64 (jK+1)=kS∧kv=kS+dY∧0≤kS∧kv≤4611686018427387904∧¬kv<0∧lG=kv+1∧IntKind.wrap .i64 (kv+1)=lG∧lH=lG+1∧IntKind.wrap .i64 (lG+1)=lH∧kT=lH+en∧0≤lH∧kT≤4611686018427387904∧¬kT<0∧kU=kT+1∧IntKind.wrap .i64 (kT+1)=kU∧lI=kU+1∧IntKind.wrap .i64 (kU+1)=lI∧lJ=lI+1∧IntKind.wrap .i64 (lI+1)=lJ∧lK=lJ+1∧IntKind.wrap .i64 (lJ+1)=lK∧lL=lK+1∧IntKind.wrap .i64 (lK+1)=lL∧lM=lL+1∧IntKind.wrap .i64 (lL+1)=lM∧iL=lM+uI∧0≤lM∧iL≤4611686018427387904∧¬iL<0∧k1+(1+1+1+bQ+1+1+1+1+1+1+1+1+dM+1+dY+1+1+en+1+1+1+1+1+1+uI)=iL∧0≤iL:=
 ⟨k1+1,k1+1+1,k1+1+1+1,k1+1+1+1+bQ,k1+1+1+1+bQ+1,k1+1+1+1+bQ+1+1,k1+1+1+1+bQ+1+1+1,k1+1+1+1+bQ+1+1+1+1,k1+1+1+1+bQ+1+1+1+1+1,k1+1+1+1+bQ+1+1+1+1+1+1,k1+1+1+1+bQ+1+1+1+1+1+1+1,k1+1+1+1+bQ+1+1+1+1+1+1+1+1,k1+1+1+1+bQ+1+1+1+1+1+1+1+1+dM,k1+1+1+1+bQ+1+1+1+1+1+1+1+1+dM+1,k1+1+1+1+bQ+1+1+1+1+1+1+1+1+dM+1+dY,k1+1+1+1+bQ+1+1+1+1+1+1+1+1+dM+1+dY+1,k1+1+1+1+bQ+1+1+1+1+1+1+1+1+dM+1+dY+1+1,k1+1+1+1+bQ+1+1+1+1+1+1+1+1+dM+1+dY+1+1+en,k1+1+1+1+bQ+1+1+1+1+1+1+1+1+dM+1+dY+1+1+en+1,k1+1+1+1+bQ+1+1+1+1+1+1+1+1+dM+1+dY+1+1+en+1+1,k1+1+1+1+bQ+1+1+1+1+1+1+1+1+dM+1+dY+1+1+en+1+1+1,k1+1+1+1+bQ+1+1+1+1+1+1+1+1+dM+1+dY+1+1+en+1+1+1+1,k1+1+1+1+bQ+1+1+1+1+1+1+1+1+dM+1+dY+1+1+en+1+1+1+1+1,k1+1+1+1+bQ+1+1+1+1+1+1+1+1+dM+1+dY+1+1+en+1+1+1+1+1+1,k1+1+1+1+bQ+1+1+1+1+1+1+1+1+dM+1+dY+1+1+en+1+1+1+1+1+1+uI,rfl,wrap_i64 (by omega) (by omega),rfl,wrap_i64 (by omega) (by omega),rfl,wrap_i64 (by omega) (by omega),rfl,by omega,by omega,by omega,rfl,wrap_i64 (by omega) (by omega),rfl,wrap_i64 (by omega) (by omega),rfl,wrap_i64 (by omega) (by omega),rfl,wrap_i64 (by omega) (by omega),rfl,wrap_i64 (by omega) (by omega),rfl,wrap_i64 (by omega) (by omega),rfl,wrap_i64 (by omega) (by omega),rfl,wrap_i64 (by omega) (by omega),by omega,rfl,by omega,by omega,by omega,rfl,wrap_i64 (by omega) (by omega),rfl,by omega,by omega,by omega,rfl,wrap_i64 (by omega) (by omega),rfl,wrap_i64 (by omega) (by omega),rfl,by omega,by omega,by omega,rfl,wrap_i64 (by omega) (by omega),rfl,wrap_i64 (by omega) (by omega),rfl,wrap_i64 (by omega) (by omega),rfl,wrap_i64 (by omega) (by omega),rfl,wrap_i64 (by omega) (by omega),rfl,wrap_i64 (by omega) (by omega),rfl,by omega,by omega,by omega,by omega,by omega⟩
def mS:an→Int
 |⟨a_,gj,aL,br,⟨cR,⟨cT,cS,cU,⟨cX,cV,cW⟩,aY⟩,cQ,a9⟩,⟨dt,fZ,fY,⟨gf,f_,ga⟩⟩,fO,gh,fS,fU,gg⟩=>1+1+aT aL+1+1+1+1+1+1+1+1+bc aY+1+aj a9+b_ dt+1+1+1+1+1+1+1+1+1+1
def da:List an→Int
 |[]=>0
 |x::l=>mS x+da l
def nY:Int→an→an
 |k,⟨a_,gj,aL,br,⟨cR,⟨cT,cS,cU,⟨cX,cV,cW⟩,aY⟩,cQ,a9⟩,⟨dt,fZ,fY,⟨gf,f_,ga⟩⟩,fO,gh,fS,fU,gg⟩=>⟨k,k+1,iI (k+1+1) aL,k+1+1+aT aL,⟨k+1+1+aT aL+1,⟨k+1+1+aT aL+1+1,k+1+1+aT aL+1+1+1,k+1+1+aT aL+1+1+1+1,⟨k+1+1+aT aL+1+1+1+1+1,k+1+1+aT aL+1+1+1+1+1+1,rr (k+1+1+aT aL+1+1+1+1+1+1+1)⟩,hY (k+1+1+aT aL+1+1+1+1+1+1+1+1) aY⟩,k+1+1+aT aL+1+1+1+1+1+1+1+1+bc aY,fw (k+1+1+aT aL+1+1+1+1+1+1+1+1+bc aY+1) a9⟩,⟨jB (k+1+1+aT aL+1+1+1+1+1+1+1+1+bc aY+1+aj a9) dt,k+1+1+aT aL+1+1+1+1+1+1+1+1+bc aY+1+aj a9+b_ dt,((k+1+1+aT aL+1+1+1+1+1+1+1+1+bc aY+1+aj a9+b_ dt+1).tmod 3==0),⟨k+1+1+aT aL+1+1+1+1+1+1+1+1+bc aY+1+aj a9+b_ dt+1+1,k+1+1+aT aL+1+1+1+1+1+1+1+1+bc aY+1+aj a9+b_ dt+1+1+1,rr (k+1+1+aT aL+1+1+1+1+1+1+1+1+bc aY+1+aj a9+b_ dt+1+1+1+1)⟩⟩,k+1+1+aT aL+1+1+1+1+1+1+1+1+bc aY+1+aj a9+b_ dt+1+1+1+1+1,k+1+1+aT aL+1+1+1+1+1+1+1+1+bc aY+1+aj a9+b_ dt+1+1+1+1+1+1,k+1+1+aT aL+1+1+1+1+1+1+1+1+bc aY+1+aj a9+b_ dt+1+1+1+1+1+1+1,k+1+1+aT aL+1+1+1+1+1+1+1+1+bc aY+1+aj a9+b_ dt+1+1+1+1+1+1+1+1,k+1+1+aT aL+1+1+1+1+1+1+1+1+bc aY+1+aj a9+b_ dt+1+1+1+1+1+1+1+1+1⟩
def jA:Int→List an→List an
 |_,[]=>[]
 |k,x::l=>nY k x::jA (k+mS x) l
theorem NQ:∀x:an,1≤mS x
 |⟨a_,gj,aL,br,⟨cR,⟨cT,cS,cU,⟨cX,cV,cW⟩,aY⟩,cQ,a9⟩,⟨dt,fZ,fY,⟨gf,f_,ga⟩⟩,fO,gh,fS,fU,gg⟩=>by have Cj:=il aL;have Ci:=jl aY;have Ch:=eu a9;have OE:=mT dt;simp only [mS];omega
theorem yJ:∀l:List an,(l.length:Int)≤da l
 |[]=>by simp [da]
 |x::l=>by have h1:=NQ x;have h2:=yJ l;simp only [da,za];omega
theorem rV (l:List an):0≤da l:=by have:=yJ l;omega
@[simp] theorem SL:∀(k:Int) (l:List an),(jA k l).length=l.length
 |_,[]=>by simp [jA]
 |k,x::l=>by simp [jA,SL]
theorem Js (k1 bQ dM dY jM:Int) (h0:0≤k1) (Cj:0≤bQ) (Ci:0≤dM) (Ch:0≤dY) (OE:0≤jM) (hB:k1+(1+1+bQ+1+1+1+1+1+1+1+1+dM+1+dY+jM+1+1+1+1+1+1+1+1+1+1)≤4611686018427387904):
 ∃w1 w2 w3 w4 w5 w6 w7 w8 w9 iK jI jJ jK kS kv lG lH kT kU lI lJ lK lL lM iL:Int,w1=k1+1∧IntKind.wrap .i64 (k1+1)=w1∧w2=w1+1∧IntKind.wrap .i64 (w1+1)=w2∧w3=w2+bQ∧0≤w2∧w3≤4611686018427387904∧¬w3<0∧w4=w3+1∧IntKind.wrap .i64 (w3+1)=w4∧w5=w4+1∧IntKind.wrap .i64 (w4+1)=w5∧w6=w5+1∧IntKind.wrap .i64 (w5+1)=w6∧w7=w6+1∧IntKind.wrap .i64 (w6+1)=w7∧w8=w7+1∧IntKind.wrap .i64 (w7+1)=w8∧w9=w8+1∧IntKind.wrap .i64 (w8+1)=w9∧iK=w9+1∧IntKind.wrap .i64 (w9+1)=iK∧jI=iK+1∧IntKind.wrap .i64 (iK+1)=jI∧iK≤4611686018427387904∧jJ=jI+dM∧0≤jI∧jJ≤4611686018427387904∧¬jJ<0∧jK=jJ+1∧IntKind.wrap .i64 (jJ+1)=jK∧kS=jK+dY∧0≤jK∧kS≤4611686018427387904∧¬kS<0∧kv=kS+jM∧0≤kS∧kv≤4611686018427387904∧¬kv<0∧lG=kv+1∧IntKind.wrap .i64 (kv+1)=lG∧lH=lG+1∧IntKind.wrap .i64 (lG+1)=lH∧kT=lH+1∧IntKind.wrap .i64 (lH+1)=kT∧kU=kT+1∧IntKind.wrap .i64 (kT+1)=kU∧lI=kU+1∧IntKind.wrap .i64 (kU+1)=lI∧kU≤4611686018427387904∧lJ=lI+1∧IntKind.wrap .i64 (lI+1)=lJ∧lK=lJ+1∧IntKind.wrap .i64 (lJ+1)=lK∧lL=lK+1∧IntKind.wrap .i64 (lK+1)=lL∧lM=lL+1∧IntKind.wrap .i64 (lL+1)=lM∧iL=lM+1∧IntKind.wrap .i64 (lM+1)=iL∧k1+(1+1+bQ+1+1+1+1+1+1+1+1+dM+1+dY+jM+1+1+1+1+1+1+1+1+1+1)=iL∧0≤iL:=
 ⟨k1+1,k1+1+1,k1+1+1+bQ,k1+1+1+bQ+1,k1+1+1+bQ+1+1,k1+1+1+bQ+1+1+1,k1+1+1+bQ+1+1+1+1,k1+1+1+bQ+1+1+1+1+1,k1+1+1+bQ+1+1+1+1+1+1,k1+1+1+bQ+1+1+1+1+1+1+1,k1+1+1+bQ+1+1+1+1+1+1+1+1,k1+1+1+bQ+1+1+1+1+1+1+1+1+dM,k1+1+1+bQ+1+1+1+1+1+1+1+1+dM+1,k1+1+1+bQ+1+1+1+1+1+1+1+1+dM+1+dY,k1+1+1+bQ+1+1+1+1+1+1+1+1+dM+1+dY+jM,k1+1+1+bQ+1+1+1+1+1+1+1+1+dM+1+dY+jM+1,k1+1+1+bQ+1+1+1+1+1+1+1+1+dM+1+dY+jM+1+1,k1+1+1+bQ+1+1+1+1+1+1+1+1+dM+1+dY+jM+1+1+1,k1+1+1+bQ+1+1+1+1+1+1+1+1+dM+1+dY+jM+1+1+1+1,k1+1+1+bQ+1+1+1+1+1+1+1+1+dM+1+dY+jM+1+1+1+1+1,k1+1+1+bQ+1+1+1+1+1+1+1+1+dM+1+dY+jM+1+1+1+1+1+1,k1+1+1+bQ+1+1+1+1+1+1+1+1+dM+1+dY+jM+1+1+1+1+1+1+1,k1+1+1+bQ+1+1+1+1+1+1+1+1+dM+1+dY+jM+1+1+1+1+1+1+1+1,k1+1+1+bQ+1+1+1+1+1+1+1+1+dM+1+dY+jM+1+1+1+1+1+1+1+1+1,k1+1+1+bQ+1+1+1+1+1+1+1+1+dM+1+dY+jM+1+1+1+1+1+1+1+1+1+1,rfl,wrap_i64 (by omega) (by omega),rfl,wrap_i64 (by omega) (by omega),rfl,by omega,by omega,by omega,rfl,wrap_i64 (by omega) (by omega),rfl,wrap_i64 (by omega) (by omega),rfl,wrap_i64 (by omega) (by omega),rfl,wrap_i64 (by omega) (by omega),rfl,wrap_i64 (by omega) (by omega),rfl,wrap_i64 (by omega) (by omega),rfl,wrap_i64 (by omega) (by omega),rfl,wrap_i64 (by omega) (by omega),by omega,rfl,by omega,by omega,by omega,rfl,wrap_i64 (by omega) (by omega),rfl,by omega,by omega,by omega,rfl,by omega,by omega,by omega,rfl,wrap_i64 (by omega) (by omega),rfl,wrap_i64 (by omega) (by omega),rfl,wrap_i64 (by omega) (by omega),rfl,wrap_i64 (by omega) (by omega),rfl,wrap_i64 (by omega) (by omega),by omega,rfl,wrap_i64 (by omega) (by omega),rfl,wrap_i64 (by omega) (by omega),rfl,wrap_i64 (by omega) (by omega),rfl,wrap_i64 (by omega) (by omega),rfl,wrap_i64 (by omega) (by omega),by omega,by omega⟩
def Bv (l:List aa):Prop:=∀(k:Int),0≤k→k+bc l≤4611686018427387904→Gw TT 191 [.one (.own (.sl 7 (l.map aa.e))),vi k]=some (vi (k+bc l),[(0,0,.own (.sl 7 ((hY k l).map aa.e)))])
theorem MT (l:List aa) (IH:∀y∈l,Bv y.L):Bv l:=by
 intro k h0 hc;refine Ga Gu Ez ?_;unfold Ez;generalize hM:hY k l=M;have hlen:=BY l;refine Ud Oo ?_
 ·refine bn (σ:=List aa×List aa×Int) (fun s=>[(0,AV.pl 0 0 [],some (Rt.aR [C.own (D.sl 7 (s.1.map aa.e++s.2.1.map aa.e))])),(1,AV.v false (di s.2.2),none),(5,AV.v false (di ((s.1.length:Nat):Int)),none)]) (fun s=>(∃q,l=q++s.2.1)∧M=s.1++hY s.2.2 s.2.1∧s.2.2+bc s.2.1=k+bc l∧s.1.length+s.2.1.length=l.length∧0≤s.2.2) (fun s=>s.2.1.length) ([],l,k) (by simp) ⟨⟨[],rfl⟩,hM.symm,rfl,by simp,h0⟩ ?_;rintro ⟨pre,rest,k1⟩ ⟨⟨q,r9⟩,h1,h2,h3,h4⟩;simp only at r9 h1 h2 h3 h4;rcases rest with _|⟨⟨bh,dI,a_,⟨dL,dJ,dK⟩,ax⟩,rest⟩
  ·unfold HS;simp only [hY,bc,zf,zh] at h1 h2;subst h1;refine Ud Oo ?_;repeat intro hc
   all_goals simp [Gu,h2]
  ·unfold HS;simp only [hY,bc,nZ,qG,za] at h1 h2 h3;have e_:=jl rest;have hw:=Wi ((pre.length:Int)+1);have ah:(pre.length:Int)<(pre.length:Int)+((rest.length:Int)+1):=by omega
   have bV:(pre++[nZ k1 ⟨bh,dI,a_,⟨dL,dJ,dK⟩,ax⟩]).length+rest.length=l.length:=by simp only [zb,za,ze];omega
   have bE:k1+(1+1+1+1+1+1+bc ax)+bc rest=k+bc l:=by omega
   obtain ⟨w1,w2,w3,w4,w5,w6,w7,aQ,bf,aU,bW,bB,dB,bL,iX,ch,fH,fG,iY,wQ,ej,sQ,sP,vj,hE,hZ⟩:=Ju k1 (bc ax) h4 (jl ax) (by omega);rw [hE] at h1 bE;try simp only [←aQ,←aU,←bB,←bL,←ch,←fG,←ej] at h1
   have ih:=IH ⟨bh,dI,a_,⟨dL,dJ,dK⟩,ax⟩ (by simp [r9]) w6 sQ (by simp only;rw [←ej];exact sP);simp only [←ej] at ih;subst h1
   repeat' (first
    |with_reducible (first|refine wp_seq ?_|refine cJ ?_|refine wp_skip ?_|refine wp_exit ?_|refine wp_ret ?_|refine cH ?_|refine cI ?_|refine cG ?_|refine cp ?_|refine cq ?_|refine cn ?_|refine cE ?_|refine cD ?_|refine cF ?_|refine cB ?_|refine cA ?_|refine cx ?_|refine cw ?_|refine cz ?_|refine cy ?_)
    |(with_reducible refine cK fun K hK=>?_
      simp[bf,bW,dB,iX,fH,iY,wQ,sQ,sP,vj,←ej,hw,ah,ih]
      repeat' (with_reducible first|refine hK _ ?_|(refine bm ?_ ?_<;>(intro hc;(try rw [zd] at hc);first|(try simp [hc,bf,bW,dB,iX,fH,iY,wQ,sQ,sP,vj,←ej,hw,ah,ih]))))
      all_goals (clear hK;clear K))
    |(with_reducible refine cP ?_
      refine ⟨_,rfl,?_,?_⟩<;>(intro hc;(try simp at hc);skip)))
   exact ⟨(pre++[nZ k1 ⟨bh,dI,a_,⟨dL,dJ,dK⟩,ax⟩],rest,w7),by simp [nZ,aQ,aU,bB,bL,ch,fG,ej],⟨⟨q++[⟨bh,dI,a_,⟨dL,dJ,dK⟩,ax⟩],by simp [r9]⟩,by simp [nZ,aQ,aU,bB,bL,ch,fG,ej],bE,bV,hZ⟩,by simp⟩
theorem IZ (l:List aa):Bv l:=
 MT l fun y hy=>IZ y.L
termination_by zi l
decreasing_by
 have h1:=zk hy;have h2:zi y.L<zi y:=by cases y;simp;omega
 omega
@[simp] theorem t191 (l:List aa) (k:Int) (h0:0≤k) (hc:k+bc l≤4611686018427387904):Gw TT 191 [.one (.own (.sl 7 (l.map aa.e))),vi k]=some (vi (k+bc l),[(0,0,.own (.sl 7 ((hY k l).map aa.e)))]):=IZ l k h0 hc
def Br (l:List aa):Prop:=∀(k0:Bool) (k:Int),0≤k→k+bc l≤4611686018427387904→Gw TT 176 [.one (.ro k0 (.sl 7 ((hY k l).map aa.e))),vi k]=some (vi (k+bc l),[])
theorem MS (l:List aa) (IH:∀y∈l,Br y.L):Br l:=by
 intro k0 k h0 hc;refine Ga Gd Ek ?_;unfold Ek;generalize hM:hY k l=M;have hlen:=BY l;refine Ud Oo ?_
 ·refine bn (σ:=List aa×List aa×Int) (fun s=>[(0,AV.v k0 (D.sl 7 (M.map aa.e)),none),(1,AV.v false (di s.2.2),none),(5,AV.v false (di ((s.1.length:Nat):Int)),none)]) (fun s=>(∃q,l=q++s.2.1)∧M=s.1++hY s.2.2 s.2.1∧s.2.2+bc s.2.1=k+bc l∧s.1.length+s.2.1.length=l.length∧0≤s.2.2) (fun s=>s.2.1.length) ([],l,k) (by simp [hM]) ⟨⟨[],rfl⟩,hM.symm,rfl,by simp,h0⟩ ?_;rintro ⟨pre,rest,k1⟩ ⟨⟨q,r9⟩,h1,h2,h3,h4⟩;simp only at r9 h1 h2 h3 h4;rcases rest with _|⟨⟨bh,dI,a_,⟨dL,dJ,dK⟩,ax⟩,rest⟩
  ·unfold HH;simp only [hY,bc,zf,zh] at h1 h2;subst h1;refine Ud Oo ?_;repeat intro hc
   all_goals simp [Gd,h2]
  ·unfold HH;simp only [hY,bc,nZ,qG,za] at h1 h2 h3;have e_:=jl rest;have hw:=Wi ((pre.length:Int)+1);have ah:(pre.length:Int)<(pre.length:Int)+((rest.length:Int)+1):=by omega
   have bV:(pre++[nZ k1 ⟨bh,dI,a_,⟨dL,dJ,dK⟩,ax⟩]).length+rest.length=l.length:=by simp only [zb,za,ze];omega
   have bE:k1+(1+1+1+1+1+1+bc ax)+bc rest=k+bc l:=by omega
   obtain ⟨w1,w2,w3,w4,w5,w6,w7,aQ,bf,aU,bW,bB,dB,bL,iX,ch,fH,fG,iY,wQ,ej,sQ,sP,vj,hE,hZ⟩:=Ju k1 (bc ax) h4 (jl ax) (by omega);rw [hE] at h1 bE;try simp only [←aQ,←aU,←bB,←bL,←ch,←fG,←ej] at h1
   have ih:=IH ⟨bh,dI,a_,⟨dL,dJ,dK⟩,ax⟩ (by simp [r9]) k0 w6 sQ (by simp only;rw [←ej];exact sP);simp only [←ej] at ih;subst h1
   repeat' (first
    |with_reducible (first|refine wp_seq ?_|refine cJ ?_|refine wp_skip ?_|refine wp_exit ?_|refine wp_ret ?_|refine cH ?_|refine cI ?_|refine cG ?_|refine cp ?_|refine cq ?_|refine cn ?_|refine cE ?_|refine cD ?_|refine cF ?_|refine cB ?_|refine cA ?_|refine cx ?_|refine cw ?_|refine cz ?_|refine cy ?_)
    |(with_reducible refine cK fun K hK=>?_
      simp[bf,bW,dB,iX,fH,iY,wQ,sQ,sP,vj,←ej,hw,ah,ih]
      repeat' (with_reducible first|refine hK _ ?_|(refine bm ?_ ?_<;>(intro hc;(try rw [zd] at hc);first|(try simp [hc,bf,bW,dB,iX,fH,iY,wQ,sQ,sP,vj,←ej,hw,ah,ih]))))
      all_goals (clear hK;clear K))
    |(with_reducible refine cP ?_
      refine ⟨_,rfl,?_,?_⟩<;>(intro hc;(try simp at hc);skip)))
   exact ⟨(pre++[nZ k1 ⟨bh,dI,a_,⟨dL,dJ,dK⟩,ax⟩],rest,w7),by simp [nZ,aQ,aU,bB,bL,ch,fG,ej],⟨⟨q++[⟨bh,dI,a_,⟨dL,dJ,dK⟩,ax⟩],by simp [r9]⟩,by simp [nZ,aQ,aU,bB,bL,ch,fG,ej],bE,bV,hZ⟩,by simp⟩
theorem IY (l:List aa):Br l:=
 MS l fun y hy=>IY y.L
termination_by zi l
decreasing_by
 have h1:=zk hy;have h2:zi y.L<zi y:=by cases y;simp;omega
 omega
@[simp] theorem t176 (l:List aa) (k:Int) (h0:0≤k) (hc:k+bc l≤4611686018427387904):Gw TT 176 [.one (.ro k0 (.sl 7 ((hY k l).map aa.e))),vi k]=some (vi (k+bc l),[]):=IY l k0 k h0 hc
@[simp] theorem t195 (l:List au) (k:Int) (h0:0≤k) (hc:k+db l≤4611686018427387904):Gw TT 195 [.one (.own (.sl 25 (l.map au.e))),vi k]=some (vi (k+db l),[(0,0,.own (.sl 25 ((jC k l).map au.e)))]):=by
 refine Ga Gz ED ?_;unfold ED;generalize hM:jC k l=M;have hlen:=yO l;refine Ud Oo ?_
 ·refine bn (σ:=List au×List au×Int) (fun s=>[(0,AV.pl 0 0 [],some (Rt.aR [C.own (D.sl 25 (s.1.map au.e++s.2.1.map au.e))])),(1,AV.v false (di s.2.2),none),(5,AV.v false (di ((s.1.length:Nat):Int)),none)]) (fun s=>M=s.1++jC s.2.2 s.2.1∧s.2.2+db s.2.1=k+db l∧s.1.length+s.2.1.length=l.length∧0≤s.2.2) (fun s=>s.2.1.length) ([],l,k) (by simp) ⟨hM.symm,rfl,by simp,h0⟩ ?_;rintro ⟨pre,rest,k1⟩ ⟨h1,h2,h3,h4⟩;simp only at h1 h2 h3 h4;rcases rest with _|⟨⟨a_,fX,fP,aL,br,⟨cR,⟨cT,cS,cU,⟨cX,cV,cW⟩,aY⟩,cQ,a9⟩,gk,gn,ax,fQ,fT,cY,dO,fW,gp,ed⟩,rest⟩
  ·unfold HW;simp only [jC,db,zf,zh] at h1 h2;subst h1;refine Ud Oo ?_;repeat intro hc
   all_goals simp [Gz,h2]
  ·unfold HW;simp only [jC,db,oe,qJ,za] at h1 h2 h3;have e_:=rY rest;have hw:=Wi ((pre.length:Int)+1);have ah:(pre.length:Int)<(pre.length:Int)+((rest.length:Int)+1):=by omega
   have bV:(pre++[oe k1 ⟨a_,fX,fP,aL,br,⟨cR,⟨cT,cS,cU,⟨cX,cV,cW⟩,aY⟩,cQ,a9⟩,gk,gn,ax,fQ,fT,cY,dO,fW,gp,ed⟩]).length+rest.length=l.length:=by simp only [zb,za,ze];omega
   have bE:k1+(1+1+1+aT aL+1+1+1+1+1+1+1+1+bc aY+1+aj a9+1+1+aX ax+1+1+1+1+1+1+b_ ed)+db rest=k+db l:=by omega
   obtain ⟨w1,w2,w3,w4,w5,w6,w7,w8,w9,iK,jI,jJ,jK,kS,kv,lG,lH,kT,kU,lI,lJ,lK,lL,lM,iL,aQ,bf,aU,bW,bB,dB,bL,lA,nS,nh,ch,fH,fG,iY,ej,nK,ki,nL,kj,nN,km,nO,j6,nB,hG,wT,wN,gw,pT,pO,vd,gx,wV,fF,nT,nR,ng,j7,nC,j8,nD,hI,xe,xa,vf,j9,nE,j_,nF,ke,nG,kf,nH,kg,nI,kh,nJ,hJ,xf,xb,vg,hE,hZ⟩:=chainTask k1 (aT aL) (bc aY) (aj a9) (aX ax) (b_ ed) h4 (il aL) (jl aY) (eu a9) (kJ ax) (mT ed) (by omega);rw [hE] at h1 bE;try simp only [←aQ,←aU,←bB,←bL,←ch,←fG,←ej,←ki,←kj,←km,←j6,←hG,←gw,←gx,←fF,←j7,←j8,←hI,←j9,←j_,←ke,←kf,←kg,←kh,←hJ] at h1
   subst h1
   repeat' (first
    |with_reducible (first|refine wp_seq ?_|refine cJ ?_|refine wp_skip ?_|refine wp_exit ?_|refine wp_ret ?_|refine cH ?_|refine cI ?_|refine cG ?_|refine cp ?_|refine cq ?_|refine cn ?_|refine cE ?_|refine cD ?_|refine cF ?_|refine cB ?_|refine cA ?_|refine cx ?_|refine cw ?_|refine cz ?_|refine cy ?_)
    |(with_reducible refine cK fun K hK=>?_
      simp[bf,bW,dB,lA,nS,nh,←bL,fH,iY,nK,nL,nN,nO,nB,wT,wN,pT,pO,vd,←gw,wV,nT,nR,ng,←fF,nC,nD,xe,xa,vf,←hI,nE,nF,nG,nH,nI,nJ,xf,xb,vg,←hJ,hw,ah]
      repeat' (with_reducible first|refine hK _ ?_|(refine bm ?_ ?_<;>(intro hc;(try rw [zd] at hc);first|(try simp [hc,bf,bW,dB,lA,nS,nh,←bL,fH,iY,nK,nL,nN,nO,nB,wT,wN,pT,pO,vd,←gw,wV,nT,nR,ng,←fF,nC,nD,xe,xa,vf,←hI,nE,nF,nG,nH,nI,nJ,xf,xb,vg,←hJ,hw,ah]))))
      all_goals (clear hK;clear K))
    |(with_reducible refine cP ?_
      refine ⟨_,rfl,?_,?_⟩<;>(intro hc;(try simp at hc);skip)))
   exact ⟨(pre++[oe k1 ⟨a_,fX,fP,aL,br,⟨cR,⟨cT,cS,cU,⟨cX,cV,cW⟩,aY⟩,cQ,a9⟩,gk,gn,ax,fQ,fT,cY,dO,fW,gp,ed⟩],rest,iL),by simp [oe,aQ,aU,bB,bL,ch,fG,ej,ki,kj,km,j6,hG,gw,gx,fF,j7,j8,hI,j9,j_,ke,kf,kg,kh,hJ],⟨by simp [oe,aQ,aU,bB,bL,ch,fG,ej,ki,kj,km,j6,hG,gw,gx,fF,j7,j8,hI,j9,j_,ke,kf,kg,kh,hJ],bE,bV,hZ⟩,by simp⟩
@[simp] theorem t180 (l:List au) (k:Int) (h0:0≤k) (hc:k+db l≤4611686018427387904):Gw TT 180 [.one (.ro k0 (.sl 25 ((jC k l).map au.e))),vi k]=some (vi (k+db l),[]):=by
 refine dw (F:=Gi) rfl rfl ?_;show Wp _ Eo _ _;unfold Eo;generalize hM:jC k l=M;have hlen:=yO l
 repeat' (first
  |with_reducible (first|refine wp_seq ?_|refine cJ ?_|refine wp_skip ?_|refine wp_exit ?_|refine wp_ret ?_|refine cH ?_|refine cI ?_|refine cG ?_|refine cp ?_|refine cq ?_|refine cn ?_|refine cE ?_|refine cD ?_|refine cF ?_|refine cB ?_|refine cA ?_|refine cx ?_|refine cw ?_|refine cz ?_|refine cy ?_)
  |(with_reducible refine cK fun K hK=>?_
    simp
    repeat' (with_reducible first|refine hK _ ?_|(refine bm ?_ ?_<;>(intro hc;(try rw [zd] at hc);first|(exfalso;omega)|(try simp [hc]))))
    all_goals (clear hK;clear K))
  |(with_reducible refine cP ?_
    refine ⟨_,rfl,?_,?_⟩<;>(intro hc;(try simp at hc);(all_goals first|(exfalso;omega)|skip))))
 ·refine bn (σ:=List au×List au×Int) (fun s=>[(0,AV.v k0 (D.sl 25 (M.map au.e)),none),(1,AV.v false (di s.2.2),none),(5,AV.v false (di ((s.1.length:Nat):Int)),none)]) (fun s=>M=s.1++jC s.2.2 s.2.1∧s.2.2+db s.2.1=k+db l∧s.1.length+s.2.1.length=l.length∧0≤s.2.2) (fun s=>s.2.1.length) ([],l,k) (by simp [hM]) ⟨hM.symm,rfl,by simp,h0⟩ ?_;rintro ⟨pre,rest,k1⟩ ⟨h1,h2,h3,h4⟩;simp only at h1 h2 h3 h4;rcases rest with _|⟨⟨a_,fX,fP,aL,br,⟨cR,⟨cT,cS,cU,⟨cX,cV,cW⟩,aY⟩,cQ,a9⟩,gk,gn,ax,fQ,fT,cY,dO,fW,gp,ed⟩,rest⟩
  ·unfold HL;simp only [jC,db,zf,zh] at h1 h2;subst h1
   repeat' (first
    |with_reducible (first|refine wp_seq ?_|refine cJ ?_|refine wp_skip ?_|refine wp_exit ?_|refine wp_ret ?_|refine cH ?_|refine cI ?_|refine cG ?_|refine cp ?_|refine cq ?_|refine cn ?_|refine cE ?_|refine cD ?_|refine cF ?_|refine cB ?_|refine cA ?_|refine cx ?_|refine cw ?_|refine cz ?_|refine cy ?_)
    |(with_reducible refine cK fun K hK=>?_
      simp
      repeat' (with_reducible first|refine hK _ ?_|(refine bm ?_ ?_<;>(intro hc;(try rw [zd] at hc);first|(exfalso;omega)|(try simp [hc]))))
      all_goals (clear hK;clear K))
    |(with_reducible refine cP ?_
      refine ⟨_,rfl,?_,?_⟩<;>(intro hc;(try simp at hc);(all_goals first|(exfalso;omega)|skip))))
   all_goals simp [Gi,h2]
  ·unfold HL;simp only [jC,db,oe,qJ,za] at h1 h2 h3;have e_:=rY rest;have hw:IntKind.wrap .i64 ((pre.length:Int)+1)=(pre.length:Int)+1:=wrap_i64 (by omega) (by omega);have ah:(pre.length:Int)<(pre.length:Int)+((rest.length:Int)+1):=by omega
   have bV:(pre++[oe k1 ⟨a_,fX,fP,aL,br,⟨cR,⟨cT,cS,cU,⟨cX,cV,cW⟩,aY⟩,cQ,a9⟩,gk,gn,ax,fQ,fT,cY,dO,fW,gp,ed⟩]).length+rest.length=l.length:=by simp only [zb,za,ze];omega
   have bE:k1+(1+1+1+aT aL+1+1+1+1+1+1+1+1+bc aY+1+aj a9+1+1+aX ax+1+1+1+1+1+1+b_ ed)+db rest=k+db l:=by omega
   obtain ⟨w1,w2,w3,w4,w5,w6,w7,w8,w9,iK,jI,jJ,jK,kS,kv,lG,lH,kT,kU,lI,lJ,lK,lL,lM,iL,aQ,bf,aU,bW,bB,dB,bL,lA,nS,nh,ch,fH,fG,iY,ej,nK,ki,nL,kj,nN,km,nO,j6,nB,hG,wT,wN,gw,pT,pO,vd,gx,wV,fF,nT,nR,ng,j7,nC,j8,nD,hI,xe,xa,vf,j9,nE,j_,nF,ke,nG,kf,nH,kg,nI,kh,nJ,hJ,xf,xb,vg,hE,hZ⟩:=chainTask k1 (aT aL) (bc aY) (aj a9) (aX ax) (b_ ed) h4 (il aL) (jl aY) (eu a9) (kJ ax) (mT ed) (by omega);rw [hE] at h1 bE;try simp only [←aQ,←aU,←bB,←bL,←ch,←fG,←ej,←ki,←kj,←km,←j6,←hG,←gw,←gx,←fF,←j7,←j8,←hI,←j9,←j_,←ke,←kf,←kg,←kh,←hJ] at h1
   subst h1
   repeat' (first
    |with_reducible (first|refine wp_seq ?_|refine cJ ?_|refine wp_skip ?_|refine wp_exit ?_|refine wp_ret ?_|refine cH ?_|refine cI ?_|refine cG ?_|refine cp ?_|refine cq ?_|refine cn ?_|refine cE ?_|refine cD ?_|refine cF ?_|refine cB ?_|refine cA ?_|refine cx ?_|refine cw ?_|refine cz ?_|refine cy ?_)
    |(with_reducible refine cK fun K hK=>?_
      simp[bf,bW,dB,lA,nS,nh,←bL,fH,iY,nK,nL,nN,nO,nB,wT,wN,pT,pO,vd,←gw,wV,nT,nR,ng,←fF,nC,nD,xe,xa,vf,←hI,nE,nF,nG,nH,nI,nJ,xf,xb,vg,←hJ,hw,ah]
      repeat' (with_reducible first|refine hK _ ?_|(refine bm ?_ ?_<;>(intro hc;(try rw [zd] at hc);first|(try simp [hc,bf,bW,dB,lA,nS,nh,←bL,fH,iY,nK,nL,nN,nO,nB,wT,wN,pT,pO,vd,←gw,wV,nT,nR,ng,←fF,nC,nD,xe,xa,vf,←hI,nE,nF,nG,nH,nI,nJ,xf,xb,vg,←hJ,hw,ah]))))
      all_goals (clear hK;clear K))
    |(with_reducible refine cP ?_
      refine ⟨_,rfl,?_,?_⟩<;>(intro hc;(try simp at hc);skip)))
   all_goals first|exact ⟨(pre++[oe k1 ⟨a_,fX,fP,aL,br,⟨cR,⟨cT,cS,cU,⟨cX,cV,cW⟩,aY⟩,cQ,a9⟩,gk,gn,ax,fQ,fT,cY,dO,fW,gp,ed⟩],rest,iL),by simp [oe,aQ,aU,bB,bL,ch,fG,ej,ki,kj,km,j6,hG,gw,gx,fF,j7,j8,hI,j9,j_,ke,kf,kg,kh,hJ],⟨by simp [oe,aQ,aU,bB,bL,ch,fG,ej,ki,kj,km,j6,hG,gw,gx,fF,j7,j8,hI,j9,j_,ke,kf,kg,kh,hJ],bE,bV,hZ⟩,by simp⟩|(exfalso;simp_all;done)
@[simp] theorem t188 (l:List an) (k:Int) (h0:0≤k) (hc:k+da l≤4611686018427387904):Gw TT 188 [.one (.own (.sl 25 (l.map an.e))),vi k]=some (vi (k+da l),[(0,0,.own (.sl 25 ((jA k l).map an.e)))]):=by
 refine Ga Gr Ew ?_;unfold Ew;generalize hM:jA k l=M;have hlen:=yJ l;refine Ud Oo ?_
 ·refine bn (σ:=List an×List an×Int) (fun s=>[(0,AV.pl 0 0 [],some (Rt.aR [C.own (D.sl 25 (s.1.map an.e++s.2.1.map an.e))])),(1,AV.v false (di s.2.2),none),(5,AV.v false (di ((s.1.length:Nat):Int)),none)]) (fun s=>M=s.1++jA s.2.2 s.2.1∧s.2.2+da s.2.1=k+da l∧s.1.length+s.2.1.length=l.length∧0≤s.2.2) (fun s=>s.2.1.length) ([],l,k) (by simp) ⟨hM.symm,rfl,by simp,h0⟩ ?_;rintro ⟨pre,rest,k1⟩ ⟨h1,h2,h3,h4⟩;simp only at h1 h2 h3 h4;rcases rest with _|⟨⟨a_,gj,aL,br,⟨cR,⟨cT,cS,cU,⟨cX,cV,cW⟩,aY⟩,cQ,a9⟩,⟨dt,fZ,fY,⟨gf,f_,ga⟩⟩,fO,gh,fS,fU,gg⟩,rest⟩
  ·unfold HQ;simp only [jA,da,zf,zh] at h1 h2;subst h1;refine Ud Oo ?_;repeat intro hc
   all_goals simp [Gr,h2]
  ·unfold HQ;simp only [jA,da,nY,mS,za] at h1 h2 h3;have e_:=rV rest;have hw:=Wi ((pre.length:Int)+1);have ah:(pre.length:Int)<(pre.length:Int)+((rest.length:Int)+1):=by omega
   have bV:(pre++[nY k1 ⟨a_,gj,aL,br,⟨cR,⟨cT,cS,cU,⟨cX,cV,cW⟩,aY⟩,cQ,a9⟩,⟨dt,fZ,fY,⟨gf,f_,ga⟩⟩,fO,gh,fS,fU,gg⟩]).length+rest.length=l.length:=by simp only [zb,za,ze];omega
   have bE:k1+(1+1+aT aL+1+1+1+1+1+1+1+1+bc aY+1+aj a9+b_ dt+1+1+1+1+1+1+1+1+1+1)+da rest=k+da l:=by omega
   obtain ⟨w1,w2,w3,w4,w5,w6,w7,w8,w9,iK,jI,jJ,jK,kS,kv,lG,lH,kT,kU,lI,lJ,lK,lL,lM,iL,aQ,bf,aU,bW,bB,mw,pQ,fE,bL,iX,ch,fH,fG,iY,ej,nK,ki,nL,kj,nN,km,nO,j6,nB,wM,hG,pS,pN,vc,gw,wU,gx,pU,pP,ve,fF,nT,nR,ng,j7,nC,j8,nD,hI,wW,j9,nE,j_,nF,wO,ke,nG,kf,nH,kg,nI,kh,nJ,hJ,wX,hE,hZ⟩:=Js k1 (aT aL) (bc aY) (aj a9) (b_ dt) h4 (il aL) (jl aY) (eu a9) (mT dt) (by omega);rw [hE] at h1 bE;try simp only [←aQ,←aU,←bB,←bL,←ch,←fG,←ej,←ki,←kj,←km,←j6,←hG,←gw,←gx,←fF,←j7,←j8,←hI,←j9,←j_,←ke,←kf,←kg,←kh,←hJ] at h1
   subst h1
   repeat' (first
    |with_reducible (first|refine wp_seq ?_|refine cJ ?_|refine wp_skip ?_|refine wp_exit ?_|refine wp_ret ?_|refine cH ?_|refine cI ?_|refine cG ?_|refine cp ?_|refine cq ?_|refine cn ?_|refine cE ?_|refine cD ?_|refine cF ?_|refine cB ?_|refine cA ?_|refine cx ?_|refine cw ?_|refine cz ?_|refine cy ?_)
    |(with_reducible refine cK fun K hK=>?_
      simp[bf,bW,mw,pQ,fE,←bB,iX,fH,iY,nK,nL,nN,nO,nB,wM,pS,pN,vc,←hG,wU,pU,pP,ve,←gx,nT,nR,ng,←fF,nC,nD,wW,nE,nF,wO,nG,nH,nI,nJ,wX,hw,ah]
      repeat' (with_reducible first|refine hK _ ?_|(refine bm ?_ ?_<;>(intro hc;(try rw [zd] at hc);first|(try simp [hc,bf,bW,mw,pQ,fE,←bB,iX,fH,iY,nK,nL,nN,nO,nB,wM,pS,pN,vc,←hG,wU,pU,pP,ve,←gx,nT,nR,ng,←fF,nC,nD,wW,nE,nF,wO,nG,nH,nI,nJ,wX,hw,ah]))))
      all_goals (clear hK;clear K))
    |(with_reducible refine cP ?_
      refine ⟨_,rfl,?_,?_⟩<;>(intro hc;(try simp at hc);skip)))
   exact ⟨(pre++[nY k1 ⟨a_,gj,aL,br,⟨cR,⟨cT,cS,cU,⟨cX,cV,cW⟩,aY⟩,cQ,a9⟩,⟨dt,fZ,fY,⟨gf,f_,ga⟩⟩,fO,gh,fS,fU,gg⟩],rest,iL),by simp [nY,aQ,aU,bB,bL,ch,fG,ej,ki,kj,km,j6,hG,gw,gx,fF,j7,j8,hI,j9,j_,ke,kf,kg,kh,hJ],⟨by simp [nY,aQ,aU,bB,bL,ch,fG,ej,ki,kj,km,j6,hG,gw,gx,fF,j7,j8,hI,j9,j_,ke,kf,kg,kh,hJ],bE,bV,hZ⟩,by simp⟩
@[simp] theorem t173 (l:List an) (k:Int) (h0:0≤k) (hc:k+da l≤4611686018427387904):Gw TT 173 [.one (.ro k0 (.sl 25 ((jA k l).map an.e))),vi k]=some (vi (k+da l),[]):=by
 refine dw (F:=F') rfl rfl ?_;show Wp _ Eh _ _;unfold Eh;generalize hM:jA k l=M;have hlen:=yJ l
 repeat' (first
  |with_reducible (first|refine wp_seq ?_|refine cJ ?_|refine wp_skip ?_|refine wp_exit ?_|refine wp_ret ?_|refine cH ?_|refine cI ?_|refine cG ?_|refine cp ?_|refine cq ?_|refine cn ?_|refine cE ?_|refine cD ?_|refine cF ?_|refine cB ?_|refine cA ?_|refine cx ?_|refine cw ?_|refine cz ?_|refine cy ?_)
  |(with_reducible refine cK fun K hK=>?_
    simp
    repeat' (with_reducible first|refine hK _ ?_|(refine bm ?_ ?_<;>(intro hc;(try rw [zd] at hc);first|(exfalso;omega)|(try simp [hc]))))
    all_goals (clear hK;clear K))
  |(with_reducible refine cP ?_
    refine ⟨_,rfl,?_,?_⟩<;>(intro hc;(try simp at hc);(all_goals first|(exfalso;omega)|skip))))
 ·refine bn (σ:=List an×List an×Int) (fun s=>[(0,AV.v k0 (D.sl 25 (M.map an.e)),none),(1,AV.v false (di s.2.2),none),(5,AV.v false (di ((s.1.length:Nat):Int)),none)]) (fun s=>M=s.1++jA s.2.2 s.2.1∧s.2.2+da s.2.1=k+da l∧s.1.length+s.2.1.length=l.length∧0≤s.2.2) (fun s=>s.2.1.length) ([],l,k) (by simp [hM]) ⟨hM.symm,rfl,by simp,h0⟩ ?_;rintro ⟨pre,rest,k1⟩ ⟨h1,h2,h3,h4⟩;simp only at h1 h2 h3 h4;rcases rest with _|⟨⟨a_,gj,aL,br,⟨cR,⟨cT,cS,cU,⟨cX,cV,cW⟩,aY⟩,cQ,a9⟩,⟨dt,fZ,fY,⟨gf,f_,ga⟩⟩,fO,gh,fS,fU,gg⟩,rest⟩
  ·unfold HF;simp only [jA,da,zf,zh] at h1 h2;subst h1
   repeat' (first
    |with_reducible (first|refine wp_seq ?_|refine cJ ?_|refine wp_skip ?_|refine wp_exit ?_|refine wp_ret ?_|refine cH ?_|refine cI ?_|refine cG ?_|refine cp ?_|refine cq ?_|refine cn ?_|refine cE ?_|refine cD ?_|refine cF ?_|refine cB ?_|refine cA ?_|refine cx ?_|refine cw ?_|refine cz ?_|refine cy ?_)
    |(with_reducible refine cK fun K hK=>?_
      simp
      repeat' (with_reducible first|refine hK _ ?_|(refine bm ?_ ?_<;>(intro hc;(try rw [zd] at hc);first|(exfalso;omega)|(try simp [hc]))))
      all_goals (clear hK;clear K))
    |(with_reducible refine cP ?_
      refine ⟨_,rfl,?_,?_⟩<;>(intro hc;(try simp at hc);(all_goals first|(exfalso;omega)|skip))))
   all_goals simp [F',h2]
  ·unfold HF;simp only [jA,da,nY,mS,za] at h1 h2 h3;have e_:=rV rest;have hw:IntKind.wrap .i64 ((pre.length:Int)+1)=(pre.length:Int)+1:=wrap_i64 (by omega) (by omega);have ah:(pre.length:Int)<(pre.length:Int)+((rest.length:Int)+1):=by omega
   have bV:(pre++[nY k1 ⟨a_,gj,aL,br,⟨cR,⟨cT,cS,cU,⟨cX,cV,cW⟩,aY⟩,cQ,a9⟩,⟨dt,fZ,fY,⟨gf,f_,ga⟩⟩,fO,gh,fS,fU,gg⟩]).length+rest.length=l.length:=by simp only [zb,za,ze];omega
   have bE:k1+(1+1+aT aL+1+1+1+1+1+1+1+1+bc aY+1+aj a9+b_ dt+1+1+1+1+1+1+1+1+1+1)+da rest=k+da l:=by omega
   obtain ⟨w1,w2,w3,w4,w5,w6,w7,w8,w9,iK,jI,jJ,jK,kS,kv,lG,lH,kT,kU,lI,lJ,lK,lL,lM,iL,aQ,bf,aU,bW,bB,mw,pQ,fE,bL,iX,ch,fH,fG,iY,ej,nK,ki,nL,kj,nN,km,nO,j6,nB,wM,hG,pS,pN,vc,gw,wU,gx,pU,pP,ve,fF,nT,nR,ng,j7,nC,j8,nD,hI,wW,j9,nE,j_,nF,wO,ke,nG,kf,nH,kg,nI,kh,nJ,hJ,wX,hE,hZ⟩:=Js k1 (aT aL) (bc aY) (aj a9) (b_ dt) h4 (il aL) (jl aY) (eu a9) (mT dt) (by omega);rw [hE] at h1 bE;try simp only [←aQ,←aU,←bB,←bL,←ch,←fG,←ej,←ki,←kj,←km,←j6,←hG,←gw,←gx,←fF,←j7,←j8,←hI,←j9,←j_,←ke,←kf,←kg,←kh,←hJ] at h1
   subst h1
   repeat' (first
    |with_reducible (first|refine wp_seq ?_|refine cJ ?_|refine wp_skip ?_|refine wp_exit ?_|refine wp_ret ?_|refine cH ?_|refine cI ?_|refine cG ?_|refine cp ?_|refine cq ?_|refine cn ?_|refine cE ?_|refine cD ?_|refine cF ?_|refine cB ?_|refine cA ?_|refine cx ?_|refine cw ?_|refine cz ?_|refine cy ?_)
    |(with_reducible refine cK fun K hK=>?_
      simp[bf,bW,mw,pQ,fE,←bB,iX,fH,iY,nK,nL,nN,nO,nB,wM,pS,pN,vc,←hG,wU,pU,pP,ve,←gx,nT,nR,ng,←fF,nC,nD,wW,nE,nF,wO,nG,nH,nI,nJ,wX,hw,ah]
      repeat' (with_reducible first|refine hK _ ?_|(refine bm ?_ ?_<;>(intro hc;(try rw [zd] at hc);first|(try simp [hc,bf,bW,mw,pQ,fE,←bB,iX,fH,iY,nK,nL,nN,nO,nB,wM,pS,pN,vc,←hG,wU,pU,pP,ve,←gx,nT,nR,ng,←fF,nC,nD,wW,nE,nF,wO,nG,nH,nI,nJ,wX,hw,ah]))))
      all_goals (clear hK;clear K))
    |(with_reducible refine cP ?_
      refine ⟨_,rfl,?_,?_⟩<;>(intro hc;(try simp at hc);skip)))
   all_goals first|exact ⟨(pre++[nY k1 ⟨a_,gj,aL,br,⟨cR,⟨cT,cS,cU,⟨cX,cV,cW⟩,aY⟩,cQ,a9⟩,⟨dt,fZ,fY,⟨gf,f_,ga⟩⟩,fO,gh,fS,fU,gg⟩],rest,iL),by simp [nY,aQ,aU,bB,bL,ch,fG,ej,ki,kj,km,j6,hG,gw,gx,fF,j7,j8,hI,j9,j_,ke,kf,kg,kh,hJ],⟨by simp [nY,aQ,aU,bB,bL,ch,fG,ej,ki,kj,km,j6,hG,gw,gx,fF,j7,j8,hI,j9,j_,ke,kf,kg,kh,hJ],bE,bV,hZ⟩,by simp⟩|(exfalso;simp_all;done)
@[simp] theorem t198 (h0:0≤k) (hc:k+aj aH+aX aO+bD aK+aj aE+bU aZ+aj ba+db az+da aG≤4611686018427387904):Gw TT 198 [.st [.own (.sl 1 (aH.map ei)),.ro false (di c9),.ro false (di c8),.ro false (di dk),.ro false (di dj),.ro false (di dh),.ro false (di c_),.own (.sl 5 (aO.map ay.e)),.own (.sl 5 (aK.map ao.e)),.own (.sl 1 (aE.map ei)),.own (.sl 3 (aZ.map aJ.e)),.own (.sl 1 (ba.map ei)),.own (.sl 25 (az.map au.e)),.own (.sl 25 (aG.map an.e))],vi k]=some (vi (k+aj aH+aX aO+bD aK+aj aE+bU aZ+aj ba+db az+da aG),[(0,0,.own (.sl 1 ((fw (k) aH).map ei))),(0,7,.own (.sl 5 ((h_ (k+aj aH) aO).map ay.e))),(0,8,.own (.sl 5 ((jy (k+aj aH+aX aO) aK).map ao.e))),(0,9,.own (.sl 1 ((fw (k+aj aH+aX aO+bD aK) aE).map ei))),(0,10,.own (.sl 3 ((jz (k+aj aH+aX aO+bD aK+aj aE) aZ).map aJ.e))),(0,11,.own (.sl 1 ((fw (k+aj aH+aX aO+bD aK+aj aE+bU aZ) ba).map ei))),(0,12,.own (.sl 25 ((jC (k+aj aH+aX aO+bD aK+aj aE+bU aZ+aj ba) az).map au.e))),(0,13,.own (.sl 25 ((jA (k+aj aH+aX aO+bD aK+aj aE+bU aZ+aj ba+db az) aG).map an.e)))]):=by
 refine Ga GB EG ?_;unfold EG;have KW:=eu aH;have KY:=kJ aO;have KV:=rR aK;have K0:=eu aE;have K3:=rU aZ;have K1:=eu ba;have K2:=rY az;have KZ:=rV aG;have pR:0≤k:=by omega
 have nQ:k+aj aH≤4611686018427387904:=by omega
 have DD:0≤k+aj aH:=by omega
 have Dy:k+aj aH+aX aO≤4611686018427387904:=by omega
 have DE:0≤k+aj aH+aX aO:=by omega
 have Dz:k+aj aH+aX aO+bD aK≤4611686018427387904:=by omega
 have DF:0≤k+aj aH+aX aO+bD aK:=by omega
 have DA:k+aj aH+aX aO+bD aK+aj aE≤4611686018427387904:=by omega
 have DC:0≤k+aj aH+aX aO+bD aK+aj aE:=by omega
 have Dx:k+aj aH+aX aO+bD aK+aj aE+bU aZ≤4611686018427387904:=by omega
 have pS:0≤k+aj aH+aX aO+bD aK+aj aE+bU aZ:=by omega
 have pN:k+aj aH+aX aO+bD aK+aj aE+bU aZ+aj ba≤4611686018427387904:=by omega
 have pT:0≤k+aj aH+aX aO+bD aK+aj aE+bU aZ+aj ba:=by omega
 have pO:k+aj aH+aX aO+bD aK+aj aE+bU aZ+aj ba+db az≤4611686018427387904:=by omega
 have pU:0≤k+aj aH+aX aO+bD aK+aj aE+bU aZ+aj ba+db az:=by omega
 have pP:k+aj aH+aX aO+bD aK+aj aE+bU aZ+aj ba+db az+da aG≤4611686018427387904:=by omega
 refine Ud (J8 pR nQ DD Dy DE Dz DF (J8 DA DC Dx pS pN pT pO (J2 pU pP))) ?_;simp [GB]
@[simp] theorem t182 (h0:0≤k) (hc:k+aj aH+aX aO+bD aK+aj aE+bU aZ+aj ba+db az+da aG≤4611686018427387904):Gw TT 182 [.st [.ro k0 (.sl 1 ((fw (k) aH).map ei)),.ro false (di c9),.ro false (di c8),.ro false (di dk),.ro false (di dj),.ro false (di dh),.ro false (di c_),.ro k0 (.sl 5 ((h_ (k+aj aH) aO).map ay.e)),.ro k0 (.sl 5 ((jy (k+aj aH+aX aO) aK).map ao.e)),.ro k0 (.sl 1 ((fw (k+aj aH+aX aO+bD aK) aE).map ei)),.ro k0 (.sl 3 ((jz (k+aj aH+aX aO+bD aK+aj aE) aZ).map aJ.e)),.ro k0 (.sl 1 ((fw (k+aj aH+aX aO+bD aK+aj aE+bU aZ) ba).map ei)),.ro k0 (.sl 25 ((jC (k+aj aH+aX aO+bD aK+aj aE+bU aZ+aj ba) az).map au.e)),.ro k0 (.sl 25 ((jA (k+aj aH+aX aO+bD aK+aj aE+bU aZ+aj ba+db az) aG).map an.e))],vi k]=some (vi (k+aj aH+aX aO+bD aK+aj aE+bU aZ+aj ba+db az+da aG),[]):=by
 refine Ga Gk Er ?_;unfold Er;have KW:=eu aH;have KY:=kJ aO;have KV:=rR aK;have K0:=eu aE;have K3:=rU aZ;have K1:=eu ba;have K2:=rY az;have KZ:=rV aG;have pR:0≤k:=by omega
 have nQ:k+aj aH≤4611686018427387904:=by omega
 have DD:0≤k+aj aH:=by omega
 have Dy:k+aj aH+aX aO≤4611686018427387904:=by omega
 have DE:0≤k+aj aH+aX aO:=by omega
 have Dz:k+aj aH+aX aO+bD aK≤4611686018427387904:=by omega
 have DF:0≤k+aj aH+aX aO+bD aK:=by omega
 have DA:k+aj aH+aX aO+bD aK+aj aE≤4611686018427387904:=by omega
 have DC:0≤k+aj aH+aX aO+bD aK+aj aE:=by omega
 have Dx:k+aj aH+aX aO+bD aK+aj aE+bU aZ≤4611686018427387904:=by omega
 have pS:0≤k+aj aH+aX aO+bD aK+aj aE+bU aZ:=by omega
 have pN:k+aj aH+aX aO+bD aK+aj aE+bU aZ+aj ba≤4611686018427387904:=by omega
 have pT:0≤k+aj aH+aX aO+bD aK+aj aE+bU aZ+aj ba:=by omega
 have pO:k+aj aH+aX aO+bD aK+aj aE+bU aZ+aj ba+db az≤4611686018427387904:=by omega
 have pU:0≤k+aj aH+aX aO+bD aK+aj aE+bU aZ+aj ba+db az:=by omega
 have pP:k+aj aH+aX aO+bD aK+aj aE+bU aZ+aj ba+db az+da aG≤4611686018427387904:=by omega
 refine Ud (J8 pR nQ DD Dy DE Dz DF (J8 DA DC Dx pS pN pT pO (J2 pU pP))) ?_;repeat intro hc
 simp [Gk]
theorem JR:∀(l:List af) (x:af),aT (l++[x])=aT l+qK x
 |[],x=>by simp [aT]
 |y::l,x=>by have:=JR l x;simp only [zn,aT,this];omega
theorem JO:∀(l:List ak) (x:ak),b_ (l++[x])=b_ l+qH x
 |[],x=>by simp [b_]
 |y::l,x=>by have:=JO l x;simp only [zn,b_,this];omega
theorem JP:∀(l:List aC) (x:aC),dN (l++[x])=dN l+qI x
 |[],x=>by simp [dN]
 |y::l,x=>by have:=JP l x;simp only [zn,dN,this];omega
theorem JE:∀(l:List ao) (x:ao),bD (l++[x])=bD l+qE x
 |[],x=>by simp [bD]
 |y::l,x=>by have:=JE l x;simp only [zn,bD,this];omega
theorem JM:∀(l:List aa) (x:aa),bc (l++[x])=bc l+qG x
 |[],x=>by simp [bc]
 |y::l,x=>by have:=JM l x;simp only [zn,bc,this];omega
theorem JQ:∀(l:List au) (x:au),db (l++[x])=db l+qJ x
 |[],x=>by simp [db]
 |y::l,x=>by have:=JQ l x;simp only [zn,db,this];omega
theorem JH:∀(l:List an) (x:an),da (l++[x])=da l+mS x
 |[],x=>by simp [da]
 |y::l,x=>by have:=JH l x;simp only [zn,da,this];omega
theorem Bh (h0:0≤left) (h1:left≤1048576) (hl:l.length≤9223372036854775807):
 ∃n,Gw TT 219 [.one (.ro k0 (.sl 1 (l.map ei))),vi left]=some (vi n,[])∧-1≤n∧n≤left∧(0≤n→aj l≤31*(left-n)):=by
 refine cj (F:=te) rfl rfl ?_;show Wp _ xA _ _;unfold xA;have g:=Wi (left-(l.length:Int));refine Ud g ?_ ?_;all_goals repeat intro hc
 ·exact ⟨-1,by simp [te],by omega,by omega,fun h=>absurd h (by omega)⟩
 ·have hq:=JJ l;exact ⟨left-(l.length:Int),by simp [te],by omega,by omega,fun _=>by omega⟩
theorem US (h0:0≤left) (h1:left≤1048576) (hl:l.length≤9223372036854775807):
 ∃n,Gw TT 212 [.one (.ro k0 (.sl 1 (l.map eb))),vi left]=some (vi n,[])∧-1≤n∧n≤left∧(0≤n→ef l≤31*(left-n)):=by
 refine cj (F:=s9) rfl rfl ?_;show Wp _ xt _ _;unfold xt;have g:=Wi (left-(l.length:Int));refine Ud g ?_ ?_;all_goals repeat intro hc
 ·exact ⟨-1,by simp [s9],by omega,by omega,fun h=>absurd h (by omega)⟩
 ·have hq:=JF l;exact ⟨left-(l.length:Int),by simp [s9],by omega,by omega,fun _=>by omega⟩
theorem IG (eG:ByteArray) (left:Int) (h0:0≤left) (h1:left≤1048576) (Q3:eG.size≤9223372036854775807):
 ∃n,Gw TT 231 [.st [.ro false (di tF),.ro false (di ie),.ro false (.str eG)],vi left]=some (vi n,[])∧-1≤n∧n≤left∧(0≤n→0≤31*(left-n)):=by
 refine cj (F:=ti) rfl rfl ?_;show Wp _ xL _ _;unfold xL;have g1:=Wi (left-(eG.size:Int));refine Ud g1 ?_ ?_;all_goals repeat intro hc
 ·exact ⟨-1,by simp [ti],by omega,by omega,fun h=>absurd h (by omega)⟩
 ·exact ⟨left-(eG.size:Int),by simp [ti],by omega,by omega,fun _=>by omega⟩
theorem Bi (l:List af) (left:Int) (h0:0≤left) (h1:left≤1048576) (hl:l.length≤9223372036854775807) (aP:af.aV l):
 ∃n,Gw TT 232 [.one (.ro k0 (.sl 3 (l.map af.e))),vi left]=some (vi n,[])∧-1≤n∧n≤left∧(0≤n→aT l≤31*(left-n)):=by
 refine cj (F:=qj) rfl rfl ?_;show Wp _ xM _ _;unfold xM;have g:=Wi (left-(l.length:Int));refine Ud g ?_ ?_;all_goals repeat intro hc
 ·exact ⟨-1,by simp [qj],by omega,by omega,fun h=>absurd h (by omega)⟩
 ·refine bn (σ:=List af×List af×Int) (fun s=>[(0,AV.v k0 (D.sl 3 (zg af.e l)),none),(1,AV.v false (di s.2.2),none),(5,AV.v false (di (s.1.length:Nat)),none)]) (fun s=>l=s.1++s.2.1∧0≤s.2.2∧s.2.2≤left-(l.length:Int)∧aT s.1≤31*(left-(l.length:Int)-s.2.2)+3*(s.1.length:Int)) (fun s=>s.2.1.length) ([],l,left-(l.length:Int)) (by simp) ⟨rfl,by simp only;omega,by simp only;omega,by simp [aT]⟩ ?_;rintro ⟨pre,rest,lf⟩ ⟨h2,h3,h4,h5⟩;simp only at h2 h3 h4 h5;subst h2;simp only [zb,za] at hl h4 h5 g;rcases rest with _|⟨⟨gl,fV,cY⟩,rest⟩
  ·unfold yc;refine Ud Oo ?_;repeat intro hc
   simp only [ze] at h4 h5;all_goals exact ⟨lf,by simp [qj],by omega,by omega,fun _=>by simp only [zf];omega⟩
  ·unfold yc;simp only [za] at hl h4 h5;have hw:=Wi ((pre.length:Int)+1);have lb:=JR pre ⟨gl,fV,cY⟩;simp only [qK] at lb;have hd:=aP ⟨gl,fV,cY⟩ (by simp);simp only [af.ok,and_assoc] at hd;obtain ⟨QN,PW,QC,PI,C0⟩:=hd;obtain ⟨n1,g1,a1,b1,s1⟩:=IG gl fV cY lf (by omega) (by omega) C0;refine Ud (J2 g1 hw) ?_ ?_;all_goals repeat intro hc
   ·exact ⟨-1,by simp [qj],by omega,by omega,fun h=>absurd h (by omega)⟩
   ·have hq:=s1 (by omega);skip;exact ⟨(pre++[⟨gl,fV,cY⟩],rest,n1),by simp,⟨by simp,by simp only;omega,by simp only [zb,za];omega,by simp only [zb,za,ze];omega⟩,by simp⟩
theorem U2 (ae:List af) (left:Int) (h0:0≤left) (h1:left≤1048576) (c5:ae.length≤9223372036854775807) (dU:af.aV ae):
 ∃n,Gw TT 225 [.st [.ro false (di dW),.ro k0 (.sl 3 (ae.map af.e))],vi left]=some (vi n,[])∧-1≤n∧n≤left∧(0≤n→aT ae≤31*(left-n)):=by
 refine cj (F:=tg) rfl rfl ?_;show Wp _ xF _ _;unfold xF;have sk:=il ae;obtain ⟨n1,g1,a1,b1,s1⟩:=Bi k0 ae left (by omega) (by omega) c5 dU;refine Ud g1 ?_ ?_;all_goals repeat intro hc
 ·exact ⟨-1,by simp [tg],by omega,by omega,fun h=>absurd h (by omega)⟩
 have q1:=s1 (by omega)
 ·exact ⟨n1,by simp [tg],by omega,by omega,fun _=>by omega⟩
theorem Ml (l:List ak) (left:Int) (h0:0≤left) (h1:left≤1048576) (hl:l.length≤9223372036854775807) (aP:ak.aV l):
 ∃n,Gw TT 226 [.one (.ro k0 (.sl 2 (l.map ak.e))),vi left]=some (vi n,[])∧-1≤n∧n≤left∧(0≤n→b_ l≤31*(left-n)):=by
 refine cj (F:=qg) rfl rfl ?_;show Wp _ xG _ _;unfold xG;have g:=Wi (left-(l.length:Int));refine Ud g ?_ ?_;all_goals repeat intro hc
 ·exact ⟨-1,by simp [qg],by omega,by omega,fun h=>absurd h (by omega)⟩
 ·refine bn (σ:=List ak×List ak×Int) (fun s=>[(0,AV.v k0 (D.sl 2 (zg ak.e l)),none),(1,AV.v false (di s.2.2),none),(5,AV.v false (di (s.1.length:Nat)),none)]) (fun s=>l=s.1++s.2.1∧0≤s.2.2∧s.2.2≤left-(l.length:Int)∧b_ s.1≤31*(left-(l.length:Int)-s.2.2)+1*(s.1.length:Int)) (fun s=>s.2.1.length) ([],l,left-(l.length:Int)) (by simp) ⟨rfl,by simp only;omega,by simp only;omega,by simp [b_]⟩ ?_;rintro ⟨pre,rest,lf⟩ ⟨h2,h3,h4,h5⟩;simp only at h2 h3 h4 h5;subst h2;simp only [zb,za] at hl h4 h5 g;rcases rest with _|⟨⟨br,ax⟩,rest⟩
  ·unfold x_;refine Ud Oo ?_;repeat intro hc
   simp only [ze] at h4 h5;all_goals exact ⟨lf,by simp [qg],by omega,by omega,fun _=>by simp only [zf];omega⟩
  ·unfold x_;simp only [za] at hl h4 h5;have hw:=Wi ((pre.length:Int)+1);have lb:=JO pre ⟨br,ax⟩;simp only [qH] at lb;have hd:=aP ⟨br,ax⟩ (by simp);simp only [ak.ok,and_assoc] at hd;obtain ⟨vo,vl,nr,pG⟩:=hd;obtain ⟨n1,g1,a1,b1,s1⟩:=U2 k0 br ax lf (by omega) (by omega) nr pG;refine Ud (J2 g1 hw) ?_ ?_;all_goals repeat intro hc
   ·exact ⟨-1,by simp [qg],by omega,by omega,fun h=>absurd h (by omega)⟩
   ·have hq:=s1 (by omega);skip;exact ⟨(pre++[⟨br,ax⟩],rest,n1),by simp,⟨by simp,by simp only;omega,by simp only [zb,za];omega,by simp only [zb,za,ze];omega⟩,by simp⟩
theorem UW (l:List aJ) (left:Int) (h0:0≤left) (h1:left≤1048576) (hl:l.length≤9223372036854775807):
 ∃n,Gw TT 215 [.one (.ro k0 (.sl 3 (l.map aJ.e))),vi left]=some (vi n,[])∧-1≤n∧n≤left∧(0≤n→bU l≤31*(left-n)):=by
 refine cj (F:=tc) rfl rfl ?_;show Wp _ xw _ _;unfold xw;have g:=Wi (left-(l.length:Int));refine Ud g ?_ ?_;all_goals repeat intro hc
 ·exact ⟨-1,by simp [tc],by omega,by omega,fun h=>absurd h (by omega)⟩
 ·have hq:=JG l;exact ⟨left-(l.length:Int),by simp [tc],by omega,by omega,fun _=>by omega⟩
theorem Mk (l:List ay) (left:Int) (h0:0≤left) (h1:left≤1048576) (hl:l.length≤9223372036854775807):
 ∃n,Gw TT 223 [.one (.ro k0 (.sl 5 (l.map ay.e))),vi left]=some (vi n,[])∧-1≤n∧n≤left∧(0≤n→aX l≤31*(left-n)):=by
 refine cj (F:=tf) rfl rfl ?_;show Wp _ xD _ _;unfold xD;have g:=Wi (left-(l.length:Int));refine Ud g ?_ ?_;all_goals repeat intro hc
 ·exact ⟨-1,by simp [tf],by omega,by omega,fun h=>absurd h (by omega)⟩
 ·have hq:=JN l;exact ⟨left-(l.length:Int),by simp [tf],by omega,by omega,fun _=>by omega⟩
theorem UZ (h0:0≤left) (h1:left≤1048576) (c5:ae.length≤9223372036854775807):
 ∃n,Gw TT 218 [.st [.ro false (di fM),.ro k0 (.sl 5 (ae.map ay.e))],vi left]=some (vi n,[])∧-1≤n∧n≤left∧(0≤n→aX ae≤31*(left-n)):=by
 refine cj (F:=td) rfl rfl ?_;show Wp _ xz _ _;unfold xz;have sk:=kJ ae;obtain ⟨n1,g1,a1,b1,s1⟩:=Mk k0 ae left (by omega) (by omega) c5;refine Ud g1 ?_ ?_;all_goals repeat intro hc
 ·exact ⟨-1,by simp [td],by omega,by omega,fun h=>absurd h (by omega)⟩
 have q1:=s1 (by omega)
 ·exact ⟨n1,by simp [td],by omega,by omega,fun _=>by omega⟩
theorem U3 (ae:List af) (left:Int) (h0:0≤left) (h1:left≤1048576) (c5:ae.length≤9223372036854775807) (dU:af.aV ae):
 ∃n,Gw TT 227 [.st [.ro false (di tE),.ro k0 (.sl 3 (ae.map af.e))],vi left]=some (vi n,[])∧-1≤n∧n≤left∧(0≤n→aT ae≤31*(left-n)):=by
 refine cj (F:=th) rfl rfl ?_;show Wp _ xH _ _;unfold xH;have sk:=il ae;obtain ⟨n1,g1,a1,b1,s1⟩:=Bi k0 ae left (by omega) (by omega) c5 dU;refine Ud g1 ?_ ?_;all_goals repeat intro hc
 ·exact ⟨-1,by simp [th],by omega,by omega,fun h=>absurd h (by omega)⟩
 have q1:=s1 (by omega)
 ·exact ⟨n1,by simp [th],by omega,by omega,fun _=>by omega⟩
theorem U4 (l:List aC) (left:Int) (h0:0≤left) (h1:left≤1048576) (hl:l.length≤9223372036854775807) (aP:aC.aV l):
 ∃n,Gw TT 228 [.one (.ro k0 (.sl 2 (l.map aC.e))),vi left]=some (vi n,[])∧-1≤n∧n≤left∧(0≤n→dN l≤31*(left-n)):=by
 refine cj (F:=qh) rfl rfl ?_;show Wp _ xI _ _;unfold xI;have g:=Wi (left-(l.length:Int));refine Ud g ?_ ?_;all_goals repeat intro hc
 ·exact ⟨-1,by simp [qh],by omega,by omega,fun h=>absurd h (by omega)⟩
 ·refine bn (σ:=List aC×List aC×Int) (fun s=>[(0,AV.v k0 (D.sl 2 (zg aC.e l)),none),(1,AV.v false (di s.2.2),none),(5,AV.v false (di (s.1.length:Nat)),none)]) (fun s=>l=s.1++s.2.1∧0≤s.2.2∧s.2.2≤left-(l.length:Int)∧dN s.1≤31*(left-(l.length:Int)-s.2.2)+1*(s.1.length:Int)) (fun s=>s.2.1.length) ([],l,left-(l.length:Int)) (by simp) ⟨rfl,by simp only;omega,by simp only;omega,by simp [dN]⟩ ?_;rintro ⟨pre,rest,lf⟩ ⟨h2,h3,h4,h5⟩;simp only at h2 h3 h4 h5;subst h2;simp only [zb,za] at hl h4 h5 g;rcases rest with _|⟨⟨fR,ax⟩,rest⟩
  ·unfold ya;refine Ud Oo ?_;repeat intro hc
   simp only [ze] at h4 h5;all_goals exact ⟨lf,by simp [qh],by omega,by omega,fun _=>by simp only [zf];omega⟩
  ·unfold ya;simp only [za] at hl h4 h5;have hw:=Wi ((pre.length:Int)+1);have lb:=JP pre ⟨fR,ax⟩;simp only [qI] at lb;have hd:=aP ⟨fR,ax⟩ (by simp);simp only [aC.ok,and_assoc] at hd;obtain ⟨Qw,PB,nr,pG⟩:=hd;obtain ⟨n1,g1,a1,b1,s1⟩:=U3 k0 fR ax lf (by omega) (by omega) nr pG;refine Ud (J2 g1 hw) ?_ ?_;all_goals repeat intro hc
   ·exact ⟨-1,by simp [qh],by omega,by omega,fun h=>absurd h (by omega)⟩
   ·have hq:=s1 (by omega);skip;exact ⟨(pre++[⟨fR,ax⟩],rest,n1),by simp,⟨by simp,by simp only;omega,by simp only [zb,za];omega,by simp only [zb,za,ze];omega⟩,by simp⟩
theorem UT (ae:List aC) (left:Int) (h0:0≤left) (h1:left≤1048576) (c5:ae.length≤9223372036854775807) (dU:aC.aV ae):
 ∃n,Gw TT 213 [.st [.ro false (di kz),.ro k0 (.sl 2 (ae.map aC.e))],vi left]=some (vi n,[])∧-1≤n∧n≤left∧(0≤n→dN ae≤31*(left-n)):=by
 refine cj (F:=s_) rfl rfl ?_;show Wp _ xu _ _;unfold xu;have sk:=rX ae;obtain ⟨n1,g1,a1,b1,s1⟩:=U4 k0 ae left (by omega) (by omega) c5 dU;refine Ud g1 ?_ ?_;all_goals repeat intro hc
 ·exact ⟨-1,by simp [s_],by omega,by omega,fun h=>absurd h (by omega)⟩
 have q1:=s1 (by omega)
 ·exact ⟨n1,by simp [s_],by omega,by omega,fun _=>by omega⟩
theorem UQ (h0:0≤left) (h1:left≤1048576) (vw:fj.length≤9223372036854775807) (vP:aC.aV fj) (vC:gW.length≤9223372036854775807):
 ∃n,Gw TT 210 [.st [.ro false (di jg),.ro false (di ca),.ro false (di oC),.ro k0 (.sl 2 (fj.map aC.e)),.ro k0 (.sl 1 (gW.map eb))],vi left]=some (vi n,[])∧-1≤n∧n≤left∧(0≤n→dN fj+ef gW≤31*(left-n)):=by
 refine cj (F:=p_) rfl rfl ?_;show Wp _ xq _ _;unfold xq;have aaN:=rX fj;have aaO:=tU gW;obtain ⟨n1,g1,a1,b1,s1⟩:=UT k0 oC fj left (by omega) (by omega) vw vP;refine Ud g1 ?_ ?_;all_goals repeat intro hc
 ·exact ⟨-1,by simp [p_],by omega,by omega,fun h=>absurd h (by omega)⟩
 have q1:=s1 (by omega);obtain ⟨n2,g2,a2,b2,s2⟩:=US k0 gW n1 (by omega) (by omega) vC;refine Ud g2 ?_ ?_;all_goals repeat intro hc
 ·exact ⟨-1,by simp [p_],by omega,by omega,fun h=>absurd h (by omega)⟩
 have q2:=s2 (by omega)
 ·exact ⟨n2,by simp [p_],by omega,by omega,fun _=>by omega⟩
theorem UR (l:List ao) (left:Int) (h0:0≤left) (h1:left≤1048576) (hl:l.length≤9223372036854775807) (aP:ao.aV l):
 ∃n,Gw TT 211 [.one (.ro k0 (.sl 5 (l.map ao.e))),vi left]=some (vi n,[])∧-1≤n∧n≤left∧(0≤n→bD l≤31*(left-n)):=by
 refine cj (F:=qa) rfl rfl ?_;show Wp _ xr _ _;unfold xr;have g:=Wi (left-(l.length:Int));refine Ud g ?_ ?_;all_goals repeat intro hc
 ·exact ⟨-1,by simp [qa],by omega,by omega,fun h=>absurd h (by omega)⟩
 ·refine bn (σ:=List ao×List ao×Int) (fun s=>[(0,AV.v k0 (D.sl 5 (zg ao.e l)),none),(1,AV.v false (di s.2.2),none),(5,AV.v false (di (s.1.length:Nat)),none)]) (fun s=>l=s.1++s.2.1∧0≤s.2.2∧s.2.2≤left-(l.length:Int)∧bD s.1≤31*(left-(l.length:Int)-s.2.2)+3*(s.1.length:Int)) (fun s=>s.2.1.length) ([],l,left-(l.length:Int)) (by simp) ⟨rfl,by simp only;omega,by simp only;omega,by simp [bD]⟩ ?_;rintro ⟨pre,rest,lf⟩ ⟨h2,h3,h4,h5⟩;simp only at h2 h3 h4 h5;subst h2;simp only [zb,za] at hl h4 h5 g;rcases rest with _|⟨⟨cL,bh,⟨fN,dX⟩,ec⟩,rest⟩
  ·unfold x7;refine Ud Oo ?_;repeat intro hc
   simp only [ze] at h4 h5;all_goals exact ⟨lf,by simp [qa],by omega,by omega,fun _=>by simp only [zf];omega⟩
  ·unfold x7;simp only [za] at hl h4 h5;have hw:=Wi ((pre.length:Int)+1);have lb:=JE pre ⟨cL,bh,⟨fN,dX⟩,ec⟩;simp only [qE] at lb;have hd:=aP ⟨cL,bh,⟨fN,dX⟩,ec⟩ (by simp);simp only [ao.ok,fm.ok,and_assoc] at hd;obtain ⟨Qr,Py,QA,PG,Qo,Pw,CV,C2,CW,Q4⟩:=hd;obtain ⟨n1,g1,a1,b1,s1⟩:=UQ k0 cL bh fN dX ec lf (by omega) (by omega) CV C2 CW;refine Ud (J2 g1 hw) ?_ ?_;all_goals repeat intro hc
   ·exact ⟨-1,by simp [qa],by omega,by omega,fun h=>absurd h (by omega)⟩
   ·have hq:=s1 (by omega);skip;exact ⟨(pre++[⟨cL,bh,⟨fN,dX⟩,ec⟩],rest,n1),by simp,⟨by simp,by simp only;omega,by simp only [zb,za];omega,by simp only [zb,za,ze];omega⟩,by simp⟩
theorem UU (h0:0≤left) (h1:left≤1048576) (vz:eM.length≤9223372036854775807):
 ∃n,Gw TT 214 [.st [.ro k0 (.sl 1 (eM.map ei)),.ro false (di qw),.ro false (di qv)],vi left]=some (vi n,[])∧-1≤n∧n≤left∧(0≤n→aj eM≤31*(left-n)):=by
 refine cj (F:=ta) rfl rfl ?_;show Wp _ xv _ _;unfold xv;have KX:=eu eM;obtain ⟨n1,g1,a1,b1,s1⟩:=Bh k0 eM left (by omega) (by omega) vz;refine Ud g1 ?_ ?_;all_goals repeat intro hc
 ·exact ⟨-1,by simp [ta],by omega,by omega,fun h=>absurd h (by omega)⟩
 have q1:=s1 (by omega)
 ·exact ⟨n1,by simp [ta],by omega,by omega,fun _=>by omega⟩
def BD (x:aa):Prop:=∀(k0:Bool) (left:Int),0≤left→left≤1048576→x.ok→∃n,Gw TT 220 [.st [.ro false (di x.Kind),.ro false (di x.eU),.ro false (di x.Op),.ro false (di x.V.Ty),.ro false (di x.V.N),.ro false (.str x.V.S),.ro k0 (.sl 7 (x.L.map aa.e))],vi left]=some (vi n,[])∧-1≤n∧n≤left∧(0≤n→bc x.L≤31*(left-n))
def BE (l:List aa):Prop:=∀(k0:Bool) (left:Int),0≤left→left≤1048576→l.length≤9223372036854775807→aa.aV l→
 ∃n,Gw TT 221 [.one (.ro k0 (.sl 7 (l.map aa.e))),vi left]=some (vi n,[])∧-1≤n∧n≤left∧(0≤n→bc l≤31*(left-n))
theorem I5 (l:List aa) (IH:∀y∈l,BD y):BE l:=by
 intro k0 left h0 h1 hl aP;refine cj (F:=qd) rfl rfl ?_;show Wp _ xB _ _;unfold xB;have g:=Wi (left-(l.length:Int));refine Ud g ?_ ?_;all_goals repeat intro hc
 ·exact ⟨-1,by simp [qd],by omega,by omega,fun h=>absurd h (by omega)⟩
 ·refine bn (σ:=List aa×List aa×Int) (fun s=>[(0,AV.v k0 (D.sl 7 (zg aa.e l)),none),(1,AV.v false (di s.2.2),none),(5,AV.v false (di (s.1.length:Nat)),none)]) (fun s=>l=s.1++s.2.1∧0≤s.2.2∧s.2.2≤left-(l.length:Int)∧bc s.1≤31*(left-(l.length:Int)-s.2.2)+6*(s.1.length:Int)) (fun s=>s.2.1.length) ([],l,left-(l.length:Int)) (by simp) ⟨rfl,by simp only;omega,by simp only;omega,by simp [bc]⟩ ?_;rintro ⟨pre,rest,lf⟩ ⟨h2,h3,h4,h5⟩;simp only at h2 h3 h4 h5;subst h2;simp only [zb,za] at hl h4 h5 g;rcases rest with _|⟨⟨bh,dI,a_,⟨dL,dJ,dK⟩,ax⟩,rest⟩
  ·unfold x9;refine Ud Oo ?_;repeat intro hc
   simp only [ze] at h4 h5;all_goals exact ⟨lf,by simp [qd],by omega,by omega,fun _=>by simp only [zf];omega⟩
  ·unfold x9;simp only [za] at hl h4 h5;have hw:=Wi ((pre.length:Int)+1);have lb:=JM pre ⟨bh,dI,a_,⟨dL,dJ,dK⟩,ax⟩;simp only [qG] at lb;obtain ⟨n1,g1,a1,b1,s1⟩:=IH ⟨bh,dI,a_,⟨dL,dJ,dK⟩,ax⟩ (by simp) k0 lf (by omega) (by omega) (aa.LK aP ⟨bh,dI,a_,⟨dL,dJ,dK⟩,ax⟩ (by simp));simp only at g1;refine Ud (J2 g1 hw) ?_ ?_;all_goals repeat intro hc
   ·exact ⟨-1,by simp [qd],by omega,by omega,fun h=>absurd h (by omega)⟩
   ·have hq:=s1 (by omega);simp only at hq;exact ⟨(pre++[⟨bh,dI,a_,⟨dL,dJ,dK⟩,ax⟩],rest,n1),by simp,⟨by simp,by simp only;omega,by simp only [zb,za];omega,by simp only [zb,za,ze];omega⟩,by simp⟩
theorem I4 (IH:BE x.L) (k0:Bool) (left:Int) (h0:0≤left) (h1:left≤1048576) (hv:x.V.S.size≤9223372036854775807) (hL:x.L.length≤9223372036854775807) (hs:aa.aV x.L):
 ∃n,Gw TT 220 [.st [.ro false (di x.Kind),.ro false (di x.eU),.ro false (di x.Op),.ro false (di x.V.Ty),.ro false (di x.V.N),.ro false (.str x.V.S),.ro k0 (.sl 7 (x.L.map aa.e))],vi left]=some (vi n,[])∧-1≤n∧n≤left∧(0≤n→bc x.L≤31*(left-n)):=by
 obtain ⟨ca,dA,cb,⟨c3,cZ,bO⟩,ae⟩:=x;have iT:=hv;have c5:=hL;have dU:=hs;simp only at iT c5 dU IH;refine cj (F:=lE) rfl rfl ?_;show Wp _ sZ _ _;unfold sZ;have sk:=jl ae;obtain ⟨n1,g1,a1,b1,s1⟩:=IG c3 cZ bO left (by omega) (by omega) iT;refine Ud g1 ?_ ?_;all_goals repeat intro hc
 ·exact ⟨-1,by simp [lE],by omega,by omega,fun h=>absurd h (by omega)⟩
 have q1:=s1 (by omega);obtain ⟨n2,g2,a2,b2,s2⟩:=IH k0 n1 (by omega) (by omega) c5 dU;try simp only at g2
 refine Ud g2 ?_ ?_;all_goals repeat intro hc
 ·exact ⟨-1,by simp [lE],by omega,by omega,fun h=>absurd h (by omega)⟩
 have q2:=s2 (by omega)
 ·exact ⟨n2,by simp [lE],by omega,by omega,fun _=>by simp only;omega⟩
theorem MX (IH:BE x.L):BD x:=by
 intro k0 left h0 h1 hx;obtain ⟨ca,dA,cb,⟨c3,cZ,bO⟩,ae⟩:=x;simp only [aa.ok_eq,af.ok,and_assoc] at hx;obtain ⟨_,_,_,_,_,_,_,_,_,_,iT,c5,dU⟩:=hx;exact I4 _ IH k0 left h0 h1 iT c5 dU
theorem I3 (x:aa):BD x:=
 MX x (I5 x.L fun y hy=>I3 y)
termination_by zi x
decreasing_by
 have h1:=zk hy;have h2:zi x.L<zi x:=by cases x;simp;omega
 omega
theorem U0 (ae:List aa) (left:Int) (h0:0≤left) (h1:left≤1048576) (iT:bO.size≤9223372036854775807) (c5:ae.length≤9223372036854775807) (dU:aa.aV ae):
 ∃n,Gw TT 220 [.st [.ro false (di ca),.ro false (di dA),.ro false (di cb),.ro false (di c3),.ro false (di cZ),.ro false (.str bO),.ro k0 (.sl 7 (ae.map aa.e))],vi left]=some (vi n,[])∧-1≤n∧n≤left∧(0≤n→bc ae≤31*(left-n)):=
 I4 ⟨ca,dA,cb,⟨c3,cZ,bO⟩,ae⟩ (I5 ae fun y _=>I3 y) k0 left h0 h1 iT c5 dU
theorem Mj (h0:0≤left) (h1:left≤1048576) (vI:gX.size≤9223372036854775807) (vH:eC.length≤9223372036854775807) (vS:aa.aV eC) (vF:fc.length≤9223372036854775807):
 ∃n,Gw TT 222 [.st [.ro false (di ca),.ro false (di lT),.ro false (di lS),.ro false (di lU),.ro false (di lW),.ro false (di lV),.ro false (.str gX),.ro k0 (.sl 7 (eC.map aa.e)),.ro false (di dA),.ro k0 (.sl 1 (fc.map ei))],vi left]=some (vi n,[])∧-1≤n∧n≤left∧(0≤n→bc eC+aj fc≤31*(left-n)):=by
 refine cj (F:=qe) rfl rfl ?_;show Wp _ xC _ _;unfold xC;have aaR:=jl eC;have aaQ:=eu fc;obtain ⟨n1,g1,a1,b1,s1⟩:=U0 k0 lT lS lU lW lV gX eC left (by omega) (by omega) vI vH vS;refine Ud g1 ?_ ?_;all_goals repeat intro hc
 ·exact ⟨-1,by simp [qe],by omega,by omega,fun h=>absurd h (by omega)⟩
 have q1:=s1 (by omega);obtain ⟨n2,g2,a2,b2,s2⟩:=Bh k0 fc n1 (by omega) (by omega) vF;refine Ud g2 ?_ ?_;all_goals repeat intro hc
 ·exact ⟨-1,by simp [qe],by omega,by omega,fun h=>absurd h (by omega)⟩
 have q2:=s2 (by omega)
 ·exact ⟨n2,by simp [qe],by omega,by omega,fun _=>by omega⟩
theorem U1 (h0:0≤left) (h1:left≤1048576) (vL:eE.length≤9223372036854775807) (vU:ak.aV eE) (iT:bO.size≤9223372036854775807):
 ∃n,Gw TT 224 [.st [.ro k0 (.sl 2 (eE.map ak.e)),.ro false (di ie),.ro false (.bool lP),.ro false (di c3),.ro false (di cZ),.ro false (.str bO)],vi left]=some (vi n,[])∧-1≤n∧n≤left∧(0≤n→b_ eE≤31*(left-n)):=by
 refine cj (F:=qf) rfl rfl ?_;show Wp _ xE _ _;unfold xE;have aaT:=mT eE;obtain ⟨n1,g1,a1,b1,s1⟩:=Ml k0 eE left (by omega) (by omega) vL vU;refine Ud g1 ?_ ?_;all_goals repeat intro hc
 ·exact ⟨-1,by simp [qf],by omega,by omega,fun h=>absurd h (by omega)⟩
 have q1:=s1 (by omega);obtain ⟨n2,g2,a2,b2,s2⟩:=IG c3 cZ bO n1 (by omega) (by omega) iT;refine Ud g2 ?_ ?_;all_goals repeat intro hc
 ·exact ⟨-1,by simp [qf],by omega,by omega,fun h=>absurd h (by omega)⟩
 have q2:=s2 (by omega)
 ·exact ⟨n2,by simp [qf],by omega,by omega,fun _=>by omega⟩
theorem U5 (h0:0≤left) (h1:left≤1048576) (nq:bq.length≤9223372036854775807) (nx:af.aV bq) (np:dq.size≤9223372036854775807) (nm:bI.length≤9223372036854775807) (nv:aa.aV bI) (nk:bT.length≤9223372036854775807) (c5:ae.length≤9223372036854775807) (vD:eB.length≤9223372036854775807) (vR:ak.aV eB):
 ∃n,Gw TT 229 [.st [.ro false (di cb),.ro false (di oH),.ro false (di oD),.ro k0 (.sl 3 (bq.map af.e)),.ro false (di dW),.ro false (di eO),.ro false (di eQ),.ro false (di eP),.ro false (di eR),.ro false (di eT),.ro false (di eS),.ro false (.str dq),.ro k0 (.sl 7 (bI.map aa.e)),.ro false (di eN),.ro k0 (.sl 1 (bT.map ei)),.ro false (di oI),.ro false (di fM),.ro k0 (.sl 5 (ae.map ay.e)),.ro false (di oE),.ro false (di oF),.ro false (di eG),.ro false (di kx),.ro false (di oG),.ro false (.bool oJ),.ro k0 (.sl 2 (eB.map ak.e))],vi left]=some (vi n,[])∧-1≤n∧n≤left∧(0≤n→aT bq+bc bI+aj bT+aX ae+b_ eB≤31*(left-n)):=by
 refine cj (F:=lF) rfl rfl ?_;show Wp _ xJ _ _;unfold xJ;have QW:=il bq;have QV:=jl bI;have QU:=eu bT;have sk:=kJ ae;have aaP:=mT eB;obtain ⟨n1,g1,a1,b1,s1⟩:=Bi k0 bq left (by omega) (by omega) nq nx;refine Ud g1 ?_ ?_;all_goals repeat intro hc
 ·exact ⟨-1,by simp [lF],by omega,by omega,fun h=>absurd h (by omega)⟩
 have q1:=s1 (by omega);obtain ⟨n2,g2,a2,b2,s2⟩:=Mj k0 eO eQ eP eR eT eS dq bI eN bT n1 (by omega) (by omega) np nm nv nk;refine Ud g2 ?_ ?_;all_goals repeat intro hc
 ·exact ⟨-1,by simp [lF],by omega,by omega,fun h=>absurd h (by omega)⟩
 have q2:=s2 (by omega);obtain ⟨n3,g3,a3,b3,s3⟩:=Mk k0 ae n2 (by omega) (by omega) c5;refine Ud g3 ?_ ?_;all_goals repeat intro hc
 ·exact ⟨-1,by simp [lF],by omega,by omega,fun h=>absurd h (by omega)⟩
 have q3:=s3 (by omega);obtain ⟨n4,g4,a4,b4,s4⟩:=Ml k0 eB n3 (by omega) (by omega) vD vR;refine Ud g4 ?_ ?_;all_goals repeat intro hc
 ·exact ⟨-1,by simp [lF],by omega,by omega,fun h=>absurd h (by omega)⟩
 have q4:=s4 (by omega)
 ·exact ⟨n4,by simp [lF],by omega,by omega,fun _=>by omega⟩
theorem U6 (l:List au) (left:Int) (h0:0≤left) (h1:left≤1048576) (hl:l.length≤9223372036854775807) (aP:au.aV l):
 ∃n,Gw TT 230 [.one (.ro k0 (.sl 25 (l.map au.e))),vi left]=some (vi n,[])∧-1≤n∧n≤left∧(0≤n→db l≤31*(left-n)):=by
 refine cj (F:=qi) rfl rfl ?_;show Wp _ xK _ _;unfold xK;have g:=Wi (left-(l.length:Int));refine Ud g ?_ ?_;all_goals repeat intro hc
 ·exact ⟨-1,by simp [qi],by omega,by omega,fun h=>absurd h (by omega)⟩
 ·refine bn (σ:=List au×List au×Int) (fun s=>[(0,AV.v k0 (D.sl 25 (zg au.e l)),none),(1,AV.v false (di s.2.2),none),(5,AV.v false (di (s.1.length:Nat)),none)]) (fun s=>l=s.1++s.2.1∧0≤s.2.2∧s.2.2≤left-(l.length:Int)∧db s.1≤31*(left-(l.length:Int)-s.2.2)+20*(s.1.length:Int)) (fun s=>s.2.1.length) ([],l,left-(l.length:Int)) (by simp) ⟨rfl,by simp only;omega,by simp only;omega,by simp [db]⟩ ?_;rintro ⟨pre,rest,lf⟩ ⟨h2,h3,h4,h5⟩;simp only at h2 h3 h4 h5;subst h2;simp only [zb,za] at hl h4 h5 g;rcases rest with _|⟨⟨a_,fX,fP,aL,br,⟨cR,⟨cT,cS,cU,⟨cX,cV,cW⟩,aY⟩,cQ,a9⟩,gk,gn,ax,fQ,fT,cY,dO,fW,gp,ed⟩,rest⟩
  ·unfold yb;refine Ud Oo ?_;repeat intro hc
   simp only [ze] at h4 h5;all_goals exact ⟨lf,by simp [qi],by omega,by omega,fun _=>by simp only [zf];omega⟩
  ·unfold yb;simp only [za] at hl h4 h5;have hw:=Wi ((pre.length:Int)+1);have lb:=JQ pre ⟨a_,fX,fP,aL,br,⟨cR,⟨cT,cS,cU,⟨cX,cV,cW⟩,aY⟩,cQ,a9⟩,gk,gn,ax,fQ,fT,cY,dO,fW,gp,ed⟩;simp only [qJ] at lb;have hd:=aP ⟨a_,fX,fP,aL,br,⟨cR,⟨cT,cS,cU,⟨cX,cV,cW⟩,aY⟩,cQ,a9⟩,gk,gn,ax,fQ,fT,cY,dO,fW,gp,ed⟩ (by simp);simp only [au.ok,dC.ok,aa.ok_eq,af.ok,and_assoc] at hd;obtain ⟨CH,Cu,QE,PK,Qu,Pz,ss,sv,vo,vl,CJ,Cw,CL,Cy,CK,Cx,CM,Cz,CO,CB,CN,CA,sr,sq,su,CI,Cv,sn,C1,QM,PV,QO,PY,nr,pG,Qv,PA,Qz,PE,QJ,PS,Qm,Pv,QD,PJ,CX,C3⟩:=hd;obtain ⟨n1,g1,a1,b1,s1⟩:=U5 k0 a_ fX fP aL br cR cT cS cU cX cV cW aY cQ a9 gk gn ax fQ fT cY dO fW gp ed lf (by omega) (by omega) ss sv sr sq su sn nr CX C3;refine Ud (J2 g1 hw) ?_ ?_;all_goals repeat intro hc
   ·exact ⟨-1,by simp [qi],by omega,by omega,fun h=>absurd h (by omega)⟩
   ·have hq:=s1 (by omega);skip;exact ⟨(pre++[⟨a_,fX,fP,aL,br,⟨cR,⟨cT,cS,cU,⟨cX,cV,cW⟩,aY⟩,cQ,a9⟩,gk,gn,ax,fQ,fT,cY,dO,fW,gp,ed⟩],rest,n1),by simp,⟨by simp,by simp only;omega,by simp only [zb,za];omega,by simp only [zb,za,ze];omega⟩,by simp⟩
end Go.Proofs.YtohlfelngklcfaaGreat.OM
