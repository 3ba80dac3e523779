/- A part of the proof. -/
import Derived.Test.YtohlfelngklcfaaGreatG3
import Derived.Test.YtohlfelngklcfaaGreatXWPc0
set_option linter.all false
namespace Go.Proofs.YtohlfelngklcfaaGreat.OM
open List renaming length_cons→za,length_append→zb,map→zh,length_nil→zi,getElem?_eq_some_iff→zj,replicate→zq,append_nil→zr,mem_singleton→zz,mem_append→zA,sizeOf_lt_of_mem→zB,mem_of_getElem?→zC,getElem?_eq_getElem→zI,length→zN,length_drop→zP,getElem?_eq_none→zR,map_map→zT,append_assoc→zY,cons_append→zZ,length_map→z_,take_of_length_le→Za,eq_nil_or_concat→Zb,concat_eq_append→Zc,length_pos_iff→Zd,all_eq_true→Zh,drop_drop→Zk,map_cons→Zn,mem_cons→Zo,map_nil→Zq
open Decidable renaming not_not→zd
open Bool renaming and_eq_true→ze,eq_iff_iff→zF,not_eq_true→zO,eq_false_iff→Zg
open Int renaming tdiv_eq_ediv_of_nonneg→zf,eq_ofNat_of_zero_le→zg,tmod_eq_emod_of_nonneg→zm,fdiv_eq_ediv_of_nonneg→zy,neg_tdiv→Ze,natCast_add→Zj,mul_nonneg→Zl,mul_le_mul→Zm
open Nat renaming mul_le_mul→zk,pow_le_pow_right→zn,pow_succ→zt,le_refl→zD,lt_of_lt_of_le→zG,mul_comm→zH,sub_self→zJ,or_lt_two_pow→zL,mod_eq_of_lt→zQ,two_pow_pos→zU,le_trans→zV,add_assoc→zX,pos_of_ne_zero→Zf,div_le_self→Zi,mul_assoc→Zp
open SizeOf renaming sizeOf→zo
open Eq renaming trans→zp
open Prod renaming fst→zu,snd→zw
open Classical renaming byContradiction→zx
open Option.some renaming injEq→zK
open UInt8 renaming ofNat→zM
open ByteArray.toList renaming loop→zS
open Prod.mk renaming injEq→zW
set_option maxHeartbeats 4000000
set_option maxRecDepth 100000
variable (oB:Int) (x:an) (s:ByteArray) (cols:List Int) (k0 k1:Bool) (b:List Int) (d:List ab) (af rA:List Int) (iL xZ eu:Int) (oC:List aA) (n u w dB ax x8 fP cd ty du aM xX iy sA nG k:Int) (xY:Bool) (bJ:ByteArray) (aG:Int) (fA:List bp) (qL nF kN ak:Int) (eI:List Int) (nH kL aI nJ:Int) (ft:ByteArray) (aK nI:Int) (au:List aL) (ke:ByteArray) (ae:List aU) (ik:List an) (aj:List Int) (cH:Int) (aw:List cD) (cG:Int) (j_ aH:List Int) (jl sF dG cO:Int) (aq:List bM) (jO dF:Int) (az:List ca) (dU:List ab) (cV:ByteArray) (bo aW fB bz ay iN bV dO iP bj:Int) (bq:List ab) (iO aZ bf iQ bB iS bD iR bC:Int) (fD:ByteArray) (bE:Int) (dQ:List an) (bH iM bF:Int) (fC:List Int) (bw:ByteArray) (mX:List aA) (jR:Int) (br:List an) (uv ef bA:Int) (uu:Bool) (ao:List aL) (bu:List Int) (ux jP bt uw jQ bY:Int) (pX:ByteArray) (aF:List aL) (sy aR sE bm sB bX sC bW sD aO:Int) (b_:Bool) (b9:List aA) (cQ kd cS:Int) (l cj:List ab) (left cp cx cz cy cA cC cB:Int) (ct:ByteArray) (cg:List an) (cw:Int) (cq:List Int) (de:List aA) (dc:Int) (db:Bool) (dj dg:Int) (dh:ByteArray) (cZ dm c9 c_ cR:Int)
def tab:List (Nat×PF):=[(1,Rb),(8,SE),(10,wo),(12,Gk),(13,Gl),(14,Gm),(15,D4),(16,Gp),(19,B6),(22,Gx),(27,Sb),(29,Sc),(38,GP),(52,So),(58,AP),(59,Ht),(60,AR),(67,Hx),(68,Ew),(69,SB),(76,SC),(77,Hy),(78,Hz),(79,SD),(81,Ex),(82,HA),(83,Cl),(84,Cm),(85,Ey),(86,SF),(87,HB),(142,Rc),(143,Rd),(144,Re),(145,Rf),(146,Rg),(147,Rh),(148,Ri),(149,Rj),(150,Rk),(151,Rl),(152,Rm),(153,Ro),(154,Rp),(155,Rq),(156,Rr),(157,Rs),(158,Ru),(159,Rv),(160,Rw),(161,Rx),(162,Ry),(163,Rz),(164,RB),(165,RD),(166,RE),(167,RF),(210,D5),(211,D6),(212,Gq),(213,Gr),(214,Gs),(215,Gt),(216,B7),(217,D7),(218,Gu),(219,Gv),(220,wq),(221,D8),(222,D9),(223,Gy),(224,D_),(225,Gz),(226,D'),(227,GA),(228,Ea),(229,AH),(230,Eb),(231,GB),(232,Ec),(233,tU),(234,RG),(235,RH),(236,RI),(237,RJ),(238,RK),(239,RL),(240,RM),(241,RN),(242,RP),(243,RQ),(244,RR),(245,RS),(246,RT),(247,RU),(248,RV),(249,RW),(250,RX),(251,RY),(252,RZ),(253,R4),(254,R5),(255,R6),(256,R7),(257,R8),(258,R9),(259,R_),(264,Sa),(266,xx),(268,GC),(269,GD),(270,GF),(271,B8),(296,GG),(298,B9),(301,GH),(308,Sd),(318,GI),(320,Ed),(322,GJ),(333,B_),(339,xy),(340,GK),(341,AI),(349,Se),(350,sg),(370,GL),(372,GM),(374,GN),(377,GO),(384,Sf),(390,B'),(391,Ee),(392,Sg),(402,Sh),(404,Ca),(414,GQ),(424,xz),(427,om),(428,mP),(429,jL),(430,kz),(446,GR),(449,Cb),(450,Si),(451,Ef),(452,Sj),(453,GS),(454,oZ),(455,GU),(456,GV),(457,Sk),(458,Sl),(459,jM),(460,Sm),(461,Eg),(462,pR),(463,qD),(481,Sn),(482,xA),(483,tV),(484,sh),(485,oo),(486,GW),(487,tW),(488,si),(489,oq),(490,Cc),(491,uT),(492,mq),(493,Cd),(494,Ce),(495,uU),(496,mr),(497,xB),(498,GX),(505,Eh),(508,Ei),(511,o8),(512,ot),(513,Ej),(514,Cf),(515,sj),(516,tX),(517,uV),(518,Cg),(519,GY),(520,GZ),(521,Ek),(522,Ch),(523,xC),(524,wu),(525,xD),(526,Ci),(527,AJ),(528,G0),(529,G2),(530,Sp),(531,G3),(537,G4),(538,wv),(539,El),(540,G5),(541,AK),(542,G6),(543,Em),(544,G7),(545,xE),(546,G8),(547,G9),(548,AM),(549,G_),(550,G'),(551,wy),(552,En),(553,Ha),(554,AN),(555,Hb),(556,Eo),(557,Hc),(558,xF),(559,He),(560,Hf),(561,AO),(562,Ep),(566,Hg),(567,j4),(568,Sq),(569,Er),(570,Hh),(571,Hj),(572,Sr),(573,Hk),(574,Hl),(575,Hm),(576,Ss),(577,Su),(578,Hn),(579,Es),(580,Sv),(581,Ho),(582,Hp),(583,Sw),(584,Sy),(585,Hq),(586,Cj),(587,Hr),(588,Sz),(589,Hs),(590,Et),(591,Hu),(592,Hv),(593,akz),(594,Ck),(595,AQ),(596,Eu),(597,Ev),(598,SA),(600,Hw)]
def TT (k:Nat):Option PF:=tab.lookup k
@[simp] abbrev ri (n:Int):C:=.ro false (di n)
@[simp] abbrev rl (k:Bool) (n:Nat) (l:List (List D)):C:=.ro k (.sl n l)
@[simp] abbrev vn (n:Int):AV:=.v false (di n)
@[simp] abbrev cb (k:Bool) (v0:List Int) (v1 v2 v3 v4 v5 v6:Int) (v7:List aL) (v8:List aU) (v9:List Int) (v10:List cD) (v11:List Int) (Be:List bM) (Bf:List ca):List C:=[.ro k (.sl 1 (v0.map ei)),.ro false (di v1),.ro false (di v2),.ro false (di v3),.ro false (di v4),.ro false (di v5),.ro false (di v6),.ro k (.sl 5 (v7.map aL.e)),.ro k (.sl 5 (v8.map aU.e)),.ro k (.sl 1 (v9.map ei)),.ro k (.sl 3 (v10.map cD.e)),.ro k (.sl 1 (v11.map ei)),.ro k (.sl 25 (Be.map bM.e)),.ro k (.sl 25 (Bf.map ca.e))]
@[simp] abbrev kr (k:Bool) (v0 v1 v2:Int) (v3:List ab) (v4 v5 v6 v7 v8 v9 v10:Int) (v11:ByteArray) (Be:List an) (Bf:Int) (ES:List Int) (ET U3:Int) (U4:List aL) (U5 U6 v20 U7 II:Int) (U8:Bool) (U9:List aA):List C:=[.ro false (di v0),.ro false (di v1),.ro false (di v2),.ro k (.sl 3 (v3.map ab.e)),.ro false (di v4),.ro false (di v5),.ro false (di v6),.ro false (di v7),.ro false (di v8),.ro false (di v9),.ro false (di v10),.ro false (.str v11),.ro k (.sl 7 (Be.map an.e)),.ro false (di Bf),.ro k (.sl 1 (ES.map ei)),.ro false (di ET),.ro false (di U3),.ro k (.sl 5 (U4.map aL.e)),.ro false (di U5),.ro false (di U6),.ro false (di v20),.ro false (di U7),.ro false (di II),.ro false (.bool U8),.ro k (.sl 2 (U9.map aA.e))]
@[simp] abbrev vh (k:Bool) (v0 v1:Int) (v2:List ab) (v3 v4 v5 v6 v7 v8 v9:Int) (v10:ByteArray) (v11:List an) (Be:Int) (Bf:List Int) (ES:List aA) (ET:Int) (U3:Bool) (U4 U5:Int) (U6:ByteArray) (v20 U7 II U8 U9:Int):List C:=[.ro false (di v0),.ro false (di v1),.ro k (.sl 3 (v2.map ab.e)),.ro false (di v3),.ro false (di v4),.ro false (di v5),.ro false (di v6),.ro false (di v7),.ro false (di v8),.ro false (di v9),.ro false (.str v10),.ro k (.sl 7 (v11.map an.e)),.ro false (di Be),.ro k (.sl 1 (Bf.map ei)),.ro k (.sl 2 (ES.map aA.e)),.ro false (di ET),.ro false (.bool U3),.ro false (di U4),.ro false (di U5),.ro false (.str U6),.ro false (di v20),.ro false (di U7),.ro false (di II),.ro false (di U8),.ro false (di U9)]
@[simp] abbrev rF (k:Bool) (v0 v1 v2 v3 v4 v5:Int) (v6:ByteArray) (v7:List an) (v8:Int) (v9:List Int):List C:=[.ro false (di v0),.ro false (di v1),.ro false (di v2),.ro false (di v3),.ro false (di v4),.ro false (di v5),.ro false (.str v6),.ro k (.sl 7 (v7.map an.e)),.ro false (di v8),.ro k (.sl 1 (v9.map ei))]
@[simp] abbrev m_ (k:Bool) (v0 v1 v2:Int) (v3:List bp) (v4:List Int):List C:=[.ro false (di v0),.ro false (di v1),.ro false (di v2),.ro k (.sl 2 (v3.map bp.e)),.ro k (.sl 1 (v4.map eb))]
@[simp] abbrev lX (v0 v1 v2 v3 v4:Int):List C:=[.ro false (di v0),.ro false (di v1),.ro false (di v2),.ro false (di v3),.ro false (di v4)]
@[simp] abbrev rG (k:Bool) (v0 v1 v2 v3 v4:Int) (v5:ByteArray) (v6:List an):List C:=[.ro false (di v0),.ro false (di v1),.ro false (di v2),.ro false (di v3),.ro false (di v4),.ro false (.str v5),.ro k (.sl 7 (v6.map an.e))]
@[simp] abbrev kO (v0 v1:Int) (v2:ByteArray):List C:=[.ro false (di v0),.ro false (di v1),.ro false (.str v2)]
@[simp] abbrev E7 (k:Bool) (v0:List aA) (v1:Int) (v2:Bool) (v3 v4:Int) (v5:ByteArray):List C:=[.ro k (.sl 2 (v0.map aA.e)),.ro false (di v1),.ro false (.bool v2),.ro false (di v3),.ro false (di v4),.ro false (.str v5)]
@[simp] abbrev Bq (k:Bool) (v0:List Int) (v1 v2:Int):List C:=[.ro k (.sl 1 (v0.map ei)),.ro false (di v1),.ro false (di v2)]
@[simp] theorem t244 (l:List Int) (h:l.length≤1048576):Gw TT 244 [.one (rl k0 1 (l.map ei))]=some (.one (.own (.sl 1 (l.map ei))),[]):=by
 refine Ga RR NW ?_;unfold NW;refine Ud Oo ?_;repeat intro hc
 ·refine ba (σ:=List Int×List Int) (fun s=>[(0,AV.v k0 (D.sl 1 (zh ei l)),none),(3,AV.pl 3 0 [],some (Rt.aX [C.own (D.sl 1 (s.1.map ei++zq s.2.length [.int .i64 0]))])),(4,vn (s.1.length:Nat),none)]) (fun s=>l=s.1++s.2) (fun s=>s.2.length) ([],l) (by simp) rfl ?_;rintro ⟨pre,rest⟩ h1;simp only at h1;subst h1;simp only [zb,za] at h;rcases rest with _|⟨d,rest⟩
  ·unfold S_;refine Ud Oo ?_;all_goals simp [RR]
  ·unfold S_;simp only [za] at h;have hw:=Wi ((pre.length:Int)+1);refine Ud (J2 @ua hw) ?_;repeat intro hc
   all_goals exact ⟨(pre++[d],rest),by simp,by simp,by simp⟩
@[simp] theorem t152 (l:List Int) (h:l.length≤1048576):Gw TT 152 [.one (rl k0 1 (l.map ei)),.one (rl k1 1 (l.map ei))]=some (vb true,[]):=by
 refine Ga Rm M6 ?_;unfold M6;refine Ud Oo ?_
 ·refine ba (σ:=List Int×List Int) (fun s=>[(0,AV.v k0 (D.sl 1 (zh ei l)),none),(1,AV.v k1 (D.sl 1 (zh ei l)),none),(5,vn (s.1.length:Nat),none)]) (fun s=>l=s.1++s.2) (fun s=>s.2.length) ([],l) (by simp) rfl ?_;rintro ⟨pre,rest⟩ h1;simp only at h1;subst h1;simp only [zb,za] at h;rcases rest with _|⟨d,rest⟩
  ·unfold SN;refine Ud Oo ?_;all_goals simp [Rm]
  ·unfold SN;simp only [za] at h;have hw:=Wi ((pre.length:Int)+1);refine Ud hw ?_;repeat intro hc
   all_goals exact ⟨(pre++[d],rest),by simp,by simp,by simp⟩
@[simp] theorem t236 (l:List Int) (h:l.length≤1048576):Gw TT 236 [.one (rl k0 1 (l.map eb))]=some (.one (.own (.sl 1 (l.map eb))),[]):=by
 refine Ga RI NO ?_;unfold NO;refine Ud Oo ?_;repeat intro hc
 ·refine ba (σ:=List Int×List Int) (fun s=>[(0,AV.v k0 (D.sl 1 (zh eb l)),none),(3,AV.pl 3 0 [],some (Rt.aX [C.own (D.sl 1 (s.1.map eb++zq s.2.length [.int .u8 0]))])),(4,vn (s.1.length:Nat),none)]) (fun s=>l=s.1++s.2) (fun s=>s.2.length) ([],l) (by simp) rfl ?_;rintro ⟨pre,rest⟩ h1;simp only at h1;subst h1;simp only [zb,za] at h;rcases rest with _|⟨d,rest⟩
  ·unfold S7;refine Ud Oo ?_;all_goals simp [RI]
  ·unfold S7;simp only [za] at h;have hw:=Wi ((pre.length:Int)+1);refine Ud (J2 @ua hw) ?_;repeat intro hc
   all_goals exact ⟨(pre++[d],rest),by simp,by simp,by simp⟩
@[simp] theorem t144 (l:List Int) (h:l.length≤1048576):Gw TT 144 [.one (rl k0 1 (l.map eb)),.one (rl k1 1 (l.map eb))]=some (vb true,[]):=by
 refine Ga Re MW ?_;unfold MW;refine Ud Oo ?_
 ·refine ba (σ:=List Int×List Int) (fun s=>[(0,AV.v k0 (D.sl 1 (zh eb l)),none),(1,AV.v k1 (D.sl 1 (zh eb l)),none),(5,vn (s.1.length:Nat),none)]) (fun s=>l=s.1++s.2) (fun s=>s.2.length) ([],l) (by simp) rfl ?_;rintro ⟨pre,rest⟩ h1;simp only at h1;subst h1;simp only [zb,za] at h;rcases rest with _|⟨d,rest⟩
  ·unfold SK;refine Ud Oo ?_;all_goals simp [Re]
  ·unfold SK;simp only [za] at h;have hw:=Wi ((pre.length:Int)+1);refine Ud hw ?_;repeat intro hc
   all_goals exact ⟨(pre++[d],rest),by simp,by simp,by simp⟩
@[simp] theorem t257:Gw TT 257 [.st (kO dB du bJ)]=some (.st (kO dB du bJ),[]):=by
 refine Ga R8 N9 ?_;unfold N9;refine Ua Oo ?_;all_goals simp [R8]
@[simp] theorem t258 (h:l.length≤1048576) (hs:ab.aJ l):Gw TT 258 [.one (rl k0 3 (l.map ab.e))]=some (.one (.own (.sl 3 (l.map ab.e))),[]):=by
 refine Ga R9 N_ ?_;unfold N_;refine Ud Oo ?_;repeat intro hc
 ·refine ba (σ:=List ab×List ab) (fun s=>[(0,AV.v k0 (D.sl 3 (zh ab.e l)),none),(3,AV.pl 3 0 [],some (Rt.aX [C.own (D.sl 3 (s.1.map ab.e++zq s.2.length [.int .i64 0,.int .i64 0,.str ⟨#[]⟩]))])),(4,vn (s.1.length:Nat),none)]) (fun s=>l=s.1++s.2) (fun s=>s.2.length) ([],l) (by simp) rfl ?_;rintro ⟨pre,rest⟩ h1;simp only at h1;subst h1;simp only [zb,za] at h;rcases rest with _|⟨⟨kN,kL,ft⟩,rest⟩
  ·unfold Tf;refine Ud Oo ?_;all_goals simp [R9]
  ·unfold Tf;simp only [za] at h;have hw:=Wi ((pre.length:Int)+1);have hd:=hs ⟨kN,kL,ft⟩ (by simp);simp only [ab.sm,and_assoc] at hd;have L9:=hd;refine Ud (J3 @ua hw L9) ?_;repeat intro hc
   all_goals exact ⟨(pre++[⟨kN,kL,ft⟩],rest),by simp,by simp,by simp⟩
@[simp] theorem t165:Gw TT 165 [.st (kO dB du bJ),.st (kO dB du bJ)]=some (vb true,[]):=by
 refine Ga RD Nj ?_;unfold Nj;refine Ua Oo ?_;all_goals simp [RD]
@[simp] theorem t166 (h:l.length≤1048576) (hs:ab.aJ l):Gw TT 166 [.one (rl k0 3 (l.map ab.e)),.one (rl k1 3 (l.map ab.e))]=some (vb true,[]):=by
 refine Ga RE Nk ?_;unfold Nk;refine Ud Oo ?_
 ·refine ba (σ:=List ab×List ab) (fun s=>[(0,AV.v k0 (D.sl 3 (zh ab.e l)),none),(1,AV.v k1 (D.sl 3 (zh ab.e l)),none),(5,vn (s.1.length:Nat),none)]) (fun s=>l=s.1++s.2) (fun s=>s.2.length) ([],l) (by simp) rfl ?_;rintro ⟨pre,rest⟩ h1;simp only at h1;subst h1;simp only [zb,za] at h;rcases rest with _|⟨⟨kN,kL,ft⟩,rest⟩
  ·unfold SV;refine Ud Oo ?_;all_goals simp [RE]
  ·unfold SV;simp only [za] at h;have hw:=Wi ((pre.length:Int)+1);have hd:=hs ⟨kN,kL,ft⟩ (by simp);simp only [ab.sm,and_assoc] at hd;have L9:=hd;refine Ud (J2 hw L9) ?_;repeat intro hc
   all_goals exact ⟨(pre++[⟨kN,kL,ft⟩],rest),by simp,by simp,by simp⟩
@[simp] theorem t251 (ao:List ab) (gM:ao.length≤1048576) (tH:ab.aJ ao):Gw TT 251 [.st [ri fB,rl k0 3 (ao.map ab.e)]]=some (.st [ri fB,.own (.sl 3 (ao.map ab.e))],[]):=by
 refine Ga RY N3 ?_;unfold N3;refine Ua (J2 gM tH) ?_;all_goals simp [RY]
@[simp] theorem t252 (l:List aA) (h:l.length≤1048576) (hs:aA.aJ l):Gw TT 252 [.one (rl k0 2 (l.map aA.e))]=some (.one (.own (.sl 2 (l.map aA.e))),[]):=by
 refine Ga RZ N4 ?_;unfold N4;refine Ud Oo ?_;repeat intro hc
 ·refine ba (σ:=List aA×List aA) (fun s=>[(0,AV.v k0 (D.sl 2 (zh aA.e l)),none),(3,AV.pl 3 0 [],some (Rt.aX [C.own (D.sl 2 (s.1.map aA.e++zq s.2.length [.int .i64 0,.sl 3 []]))])),(4,vn (s.1.length:Nat),none)]) (fun s=>l=s.1++s.2) (fun s=>s.2.length) ([],l) (by simp) rfl ?_;rintro ⟨pre,rest⟩ h1;simp only at h1;subst h1;simp only [zb,za] at h;rcases rest with _|⟨⟨bU,a_⟩,rest⟩
  ·unfold Tc;refine Ud Oo ?_;all_goals simp [RZ]
  ·unfold Tc;simp only [za] at h;have hw:=Wi ((pre.length:Int)+1);have hd:=hs ⟨bU,a_⟩ (by simp);simp only [aA.sm,and_assoc] at hd;obtain ⟨pJ,tI⟩:=hd;refine Ud (J4 @ua hw pJ tI) ?_;repeat intro hc
   all_goals exact ⟨(pre++[⟨bU,a_⟩],rest),by simp,by simp,by simp⟩
@[simp] theorem t159 (ao:List ab) (jf:ao.length≤1048576) (me:ab.aJ ao):Gw TT 159 [.st [ri fB,rl k0 3 (ao.map ab.e)],.st [ri fB,rl k1 3 (ao.map ab.e)]]=some (vb true,[]):=by
 refine Ga Rv Nb ?_;unfold Nb;refine Ua (J2 jf me) ?_;all_goals simp [Rv]
@[simp] theorem t160 (l:List aA) (h:l.length≤1048576) (hs:aA.aJ l):Gw TT 160 [.one (rl k0 2 (l.map aA.e)),.one (rl k1 2 (l.map aA.e))]=some (vb true,[]):=by
 refine Ga Rw Nd ?_;unfold Nd;refine Ud Oo ?_
 ·refine ba (σ:=List aA×List aA) (fun s=>[(0,AV.v k0 (D.sl 2 (zh aA.e l)),none),(1,AV.v k1 (D.sl 2 (zh aA.e l)),none),(5,vn (s.1.length:Nat),none)]) (fun s=>l=s.1++s.2) (fun s=>s.2.length) ([],l) (by simp) rfl ?_;rintro ⟨pre,rest⟩ h1;simp only at h1;subst h1;simp only [zb,za] at h;rcases rest with _|⟨⟨bU,a_⟩,rest⟩
  ·unfold SR;refine Ud Oo ?_;all_goals simp [Rw]
  ·unfold SR;simp only [za] at h;have hw:=Wi ((pre.length:Int)+1);have hd:=hs ⟨bU,a_⟩ (by simp);simp only [aA.sm,and_assoc] at hd;obtain ⟨pJ,tI⟩:=hd;refine Ud (J3 hw pJ tI) ?_;repeat intro hc
   all_goals exact ⟨(pre++[⟨bU,a_⟩],rest),by simp,by simp,by simp⟩
@[simp] theorem t239:Gw TT 239 [.st [ri oB,ri iL,ri fP]]=some (.st [ri oB,ri iL,ri fP],[]):=by
 refine Ga RL NR ?_;unfold NR;refine Ua Oo ?_;all_goals simp [RL]
@[simp] theorem t240 (l:List cD) (h:l.length≤1048576):Gw TT 240 [.one (rl k0 3 (l.map cD.e))]=some (.one (.own (.sl 3 (l.map cD.e))),[]):=by
 refine Ga RM NS ?_;unfold NS;refine Ud Oo ?_;repeat intro hc
 ·refine ba (σ:=List cD×List cD) (fun s=>[(0,AV.v k0 (D.sl 3 (zh cD.e l)),none),(3,AV.pl 3 0 [],some (Rt.aX [C.own (D.sl 3 (s.1.map cD.e++zq s.2.length [.int .i64 0,.int .i64 0,.int .i64 0]))])),(4,vn (s.1.length:Nat),none)]) (fun s=>l=s.1++s.2) (fun s=>s.2.length) ([],l) (by simp) rfl ?_;rintro ⟨pre,rest⟩ h1;simp only at h1;subst h1;simp only [zb,za] at h;rcases rest with _|⟨⟨dZ,dV,dH⟩,rest⟩
  ·unfold S8;refine Ud Oo ?_;all_goals simp [RM]
  ·unfold S8;simp only [za] at h;have hw:=Wi ((pre.length:Int)+1);refine Ud (J2 @ua hw) ?_;repeat intro hc
   all_goals exact ⟨(pre++[⟨dZ,dV,dH⟩],rest),by simp,by simp,by simp⟩
@[simp] theorem t147:Gw TT 147 [.st [ri oB,ri iL,ri fP],.st [ri oB,ri iL,ri fP]]=some (vb true,[]):=by
 refine Ga Rh MZ ?_;unfold MZ;refine Ua Oo ?_;all_goals simp [Rh]
@[simp] theorem t148 (l:List cD) (h:l.length≤1048576):Gw TT 148 [.one (rl k0 3 (l.map cD.e)),.one (rl k1 3 (l.map cD.e))]=some (vb true,[]):=by
 refine Ga Ri M0 ?_;unfold M0;refine Ud Oo ?_
 ·refine ba (σ:=List cD×List cD) (fun s=>[(0,AV.v k0 (D.sl 3 (zh cD.e l)),none),(1,AV.v k1 (D.sl 3 (zh cD.e l)),none),(5,vn (s.1.length:Nat),none)]) (fun s=>l=s.1++s.2) (fun s=>s.2.length) ([],l) (by simp) rfl ?_;rintro ⟨pre,rest⟩ h1;simp only at h1;subst h1;simp only [zb,za] at h;rcases rest with _|⟨⟨dZ,dV,dH⟩,rest⟩
  ·unfold SL;refine Ud Oo ?_;all_goals simp [Ri]
  ·unfold SL;simp only [za] at h;have hw:=Wi ((pre.length:Int)+1);refine Ud hw ?_;repeat intro hc
   all_goals exact ⟨(pre++[⟨dZ,dV,dH⟩],rest),by simp,by simp,by simp⟩
@[simp] theorem t248:Gw TT 248 [.st (lX oB iL cd sA qL)]=some (.st (lX oB iL cd sA qL),[]):=by
 refine Ga RV N0 ?_;unfold N0;refine Ua Oo ?_;all_goals simp [RV]
@[simp] theorem t249 (l:List aL) (h:l.length≤1048576):Gw TT 249 [.one (rl k0 5 (l.map aL.e))]=some (.one (.own (.sl 5 (l.map aL.e))),[]):=by
 refine Ga RW N1 ?_;unfold N1;refine Ud Oo ?_;repeat intro hc
 ·refine ba (σ:=List aL×List aL) (fun s=>[(0,AV.v k0 (D.sl 5 (zh aL.e l)),none),(3,AV.pl 3 0 [],some (Rt.aX [C.own (D.sl 5 (s.1.map aL.e++zq s.2.length [.int .i64 0,.int .i64 0,.int .i64 0,.int .i64 0,.int .i64 0]))])),(4,vn (s.1.length:Nat),none)]) (fun s=>l=s.1++s.2) (fun s=>s.2.length) ([],l) (by simp) rfl ?_;rintro ⟨pre,rest⟩ h1;simp only at h1;subst h1;simp only [zb,za] at h;rcases rest with _|⟨⟨dZ,dV,cO,wO,wQ⟩,rest⟩
  ·unfold Tb;refine Ud Oo ?_;all_goals simp [RW]
  ·unfold Tb;simp only [za] at h;have hw:=Wi ((pre.length:Int)+1);refine Ud (J2 @ua hw) ?_;repeat intro hc
   all_goals exact ⟨(pre++[⟨dZ,dV,cO,wO,wQ⟩],rest),by simp,by simp,by simp⟩
@[simp] theorem t156:Gw TT 156 [.st (lX oB iL cd sA qL),.st (lX oB iL cd sA qL)]=some (vb true,[]):=by
 refine Ga Rr M_ ?_;unfold M_;refine Ua Oo ?_;all_goals simp [Rr]
@[simp] theorem t157 (l:List aL) (h:l.length≤1048576):Gw TT 157 [.one (rl k0 5 (l.map aL.e)),.one (rl k1 5 (l.map aL.e))]=some (vb true,[]):=by
 refine Ga Rs M' ?_;unfold M';refine Ud Oo ?_
 ·refine ba (σ:=List aL×List aL) (fun s=>[(0,AV.v k0 (D.sl 5 (zh aL.e l)),none),(1,AV.v k1 (D.sl 5 (zh aL.e l)),none),(5,vn (s.1.length:Nat),none)]) (fun s=>l=s.1++s.2) (fun s=>s.2.length) ([],l) (by simp) rfl ?_;rintro ⟨pre,rest⟩ h1;simp only at h1;subst h1;simp only [zb,za] at h;rcases rest with _|⟨⟨dZ,dV,cO,wO,wQ⟩,rest⟩
  ·unfold SP;refine Ud Oo ?_;all_goals simp [Rs]
  ·unfold SP;simp only [za] at h;have hw:=Wi ((pre.length:Int)+1);refine Ud hw ?_;repeat intro hc
   all_goals exact ⟨(pre++[⟨dZ,dV,cO,wO,wQ⟩],rest),by simp,by simp,by simp⟩
@[simp] theorem t243 (gM:ao.length≤1048576):Gw TT 243 [.st [ri ef,rl k0 5 (ao.map aL.e)]]=some (.st [ri ef,.own (.sl 5 (ao.map aL.e))],[]):=by
 refine Ga RQ NV ?_;unfold NV;refine Ua gM ?_;all_goals simp [RQ]
@[simp] theorem t151 (jf:ao.length≤1048576):Gw TT 151 [.st [ri ef,rl k0 5 (ao.map aL.e)],.st [ri ef,rl k1 5 (ao.map aL.e)]]=some (vb true,[]):=by
 refine Ga Rl M5 ?_;unfold M5;refine Ua jf ?_;all_goals simp [Rl]
@[simp] theorem t253 (ao:List ab) (gM:ao.length≤1048576) (tH:ab.aJ ao):Gw TT 253 [.st [ri xZ,rl k0 3 (ao.map ab.e)]]=some (.st [ri xZ,.own (.sl 3 (ao.map ab.e))],[]):=by
 refine Ga R4 N5 ?_;unfold N5;refine Ua (J2 gM tH) ?_;all_goals simp [R4]
@[simp] theorem t254 (l:List bp) (h:l.length≤1048576) (hs:bp.aJ l):Gw TT 254 [.one (rl k0 2 (l.map bp.e))]=some (.one (.own (.sl 2 (l.map bp.e))),[]):=by
 refine Ga R5 N6 ?_;unfold N6;refine Ud Oo ?_;repeat intro hc
 ·refine ba (σ:=List bp×List bp) (fun s=>[(0,AV.v k0 (D.sl 2 (zh bp.e l)),none),(3,AV.pl 3 0 [],some (Rt.aX [C.own (D.sl 2 (s.1.map bp.e++zq s.2.length [.int .i64 0,.sl 3 []]))])),(4,vn (s.1.length:Nat),none)]) (fun s=>l=s.1++s.2) (fun s=>s.2.length) ([],l) (by simp) rfl ?_;rintro ⟨pre,rest⟩ h1;simp only at h1;subst h1;simp only [zb,za] at h;rcases rest with _|⟨⟨kf,a_⟩,rest⟩
  ·unfold Td;refine Ud Oo ?_;all_goals simp [R5]
  ·unfold Td;simp only [za] at h;have hw:=Wi ((pre.length:Int)+1);have hd:=hs ⟨kf,a_⟩ (by simp);simp only [bp.sm,and_assoc] at hd;obtain ⟨pJ,tI⟩:=hd;refine Ud (J4 @ua hw pJ tI) ?_;repeat intro hc
   all_goals exact ⟨(pre++[⟨kf,a_⟩],rest),by simp,by simp,by simp⟩
@[simp] theorem t161 (ao:List ab) (jf:ao.length≤1048576) (me:ab.aJ ao):Gw TT 161 [.st [ri xZ,rl k0 3 (ao.map ab.e)],.st [ri xZ,rl k1 3 (ao.map ab.e)]]=some (vb true,[]):=by
 refine Ga Rx Nf ?_;unfold Nf;refine Ua (J2 jf me) ?_;all_goals simp [Rx]
@[simp] theorem t162 (l:List bp) (h:l.length≤1048576) (hs:bp.aJ l):Gw TT 162 [.one (rl k0 2 (l.map bp.e)),.one (rl k1 2 (l.map bp.e))]=some (vb true,[]):=by
 refine Ga Ry Ng ?_;unfold Ng;refine Ud Oo ?_
 ·refine ba (σ:=List bp×List bp) (fun s=>[(0,AV.v k0 (D.sl 2 (zh bp.e l)),none),(1,AV.v k1 (D.sl 2 (zh bp.e l)),none),(5,vn (s.1.length:Nat),none)]) (fun s=>l=s.1++s.2) (fun s=>s.2.length) ([],l) (by simp) rfl ?_;rintro ⟨pre,rest⟩ h1;simp only at h1;subst h1;simp only [zb,za] at h;rcases rest with _|⟨⟨kf,a_⟩,rest⟩
  ·unfold SS;refine Ud Oo ?_;all_goals simp [Ry]
  ·unfold SS;simp only [za] at h;have hw:=Wi ((pre.length:Int)+1);have hd:=hs ⟨kf,a_⟩ (by simp);simp only [bp.sm,and_assoc] at hd;obtain ⟨pJ,tI⟩:=hd;refine Ud (J3 hw pJ tI) ?_;repeat intro hc
   all_goals exact ⟨(pre++[⟨kf,a_⟩],rest),by simp,by simp,by simp⟩
@[simp] theorem t237 (ao:List bp) (gM:ao.length≤1048576) (tH:bp.aJ ao):Gw TT 237 [.st [ri eu,rl k0 2 (ao.map bp.e)]]=some (.st [ri eu,.own (.sl 2 (ao.map bp.e))],[]):=by
 refine Ga RJ NP ?_;unfold NP;refine Ua (J2 gM tH) ?_;all_goals simp [RJ]
@[simp] theorem t145 (ao:List bp) (jf:ao.length≤1048576) (me:bp.aJ ao):Gw TT 145 [.st [ri eu,rl k0 2 (ao.map bp.e)],.st [ri eu,rl k1 2 (ao.map bp.e)]]=some (vb true,[]):=by
 refine Ga Rf MX ?_;unfold MX;refine Ua (J2 jf me) ?_;all_goals simp [Rf]
@[simp] theorem t234 (ahO:fA.length≤1048576) (ah2:bp.aJ fA) (ahS:eI.length≤1048576):Gw TT 234 [.st (m_ k0 iL cd iy fA eI)]=some (.st [ri iL,ri cd,ri iy,.own (.sl 2 (fA.map bp.e)),.own (.sl 1 (eI.map eb))],[]):=by
 refine Ga RG NM ?_;unfold NM;refine Ua (J3 ahO ah2 ahS) ?_;all_goals simp [RG]
@[simp] theorem t235 (l:List aU) (h:l.length≤1048576) (hs:aU.aJ l):Gw TT 235 [.one (rl k0 5 (l.map aU.e))]=some (.one (.own (.sl 5 (l.map aU.e))),[]):=by
 refine Ga RH NN ?_;unfold NN;refine Ud Oo ?_;repeat intro hc
 ·refine ba (σ:=List aU×List aU) (fun s=>[(0,AV.v k0 (D.sl 5 (zh aU.e l)),none),(3,AV.pl 3 0 [],some (Rt.aX [C.own (D.sl 5 (s.1.map aU.e++zq s.2.length [.int .i64 0,.int .i64 0,.int .i64 0,.sl 2 [],.sl 1 []]))])),(4,vn (s.1.length:Nat),none)]) (fun s=>l=s.1++s.2) (fun s=>s.2.length) ([],l) (by simp) rfl ?_;rintro ⟨pre,rest⟩ h1;simp only at h1;subst h1;simp only [zb,za] at h;rcases rest with _|⟨⟨dV,cO,⟨wN,wM⟩,wP⟩,rest⟩
  ·unfold S6;refine Ud Oo ?_;all_goals simp [RH]
  ·unfold S6;simp only [za] at h;have hw:=Wi ((pre.length:Int)+1);have hd:=hs ⟨dV,cO,⟨wN,wM⟩,wP⟩ (by simp);simp only [aU.sm,mC.sm,and_assoc] at hd;obtain ⟨L1,Mc,L2⟩:=hd;refine Ud (J5 @ua hw L1 Mc L2) ?_;repeat intro hc
   all_goals exact ⟨(pre++[⟨dV,cO,⟨wN,wM⟩,wP⟩],rest),by simp,by simp,by simp⟩
@[simp] theorem t142 (K':fA.length≤1048576) (Lx:bp.aJ fA) (Ld:eI.length≤1048576):Gw TT 142 [.st (m_ k0 iL cd iy fA eI),.st (m_ k1 iL cd iy fA eI)]=some (vb true,[]):=by
 refine Ga Rc MU ?_;unfold MU;refine Ua (J3 K' Lx Ld) ?_;all_goals simp [Rc]
@[simp] theorem t143 (l:List aU) (h:l.length≤1048576) (hs:aU.aJ l):Gw TT 143 [.one (rl k0 5 (l.map aU.e)),.one (rl k1 5 (l.map aU.e))]=some (vb true,[]):=by
 refine Ga Rd MV ?_;unfold MV;refine Ud Oo ?_
 ·refine ba (σ:=List aU×List aU) (fun s=>[(0,AV.v k0 (D.sl 5 (zh aU.e l)),none),(1,AV.v k1 (D.sl 5 (zh aU.e l)),none),(5,vn (s.1.length:Nat),none)]) (fun s=>l=s.1++s.2) (fun s=>s.2.length) ([],l) (by simp) rfl ?_;rintro ⟨pre,rest⟩ h1;simp only at h1;subst h1;simp only [zb,za] at h;rcases rest with _|⟨⟨dV,cO,⟨wN,wM⟩,wP⟩,rest⟩
  ·unfold SJ;refine Ud Oo ?_;all_goals simp [Rd]
  ·unfold SJ;simp only [za] at h;have hw:=Wi ((pre.length:Int)+1);have hd:=hs ⟨dV,cO,⟨wN,wM⟩,wP⟩ (by simp);simp only [aU.sm,mC.sm,and_assoc] at hd;obtain ⟨L1,Mc,L2⟩:=hd;refine Ud (J4 hw L1 Mc L2) ?_;repeat intro hc
   all_goals exact ⟨(pre++[⟨dV,cO,⟨wN,wM⟩,wP⟩],rest),by simp,by simp,by simp⟩
@[simp] theorem t238 (ahP:rA.length≤1048576):Gw TT 238 [.st (Bq k0 rA x8 xX)]=some (.st [.own (.sl 1 (rA.map ei)),ri x8,ri xX],[]):=by
 refine Ga RK NQ ?_;unfold NQ;refine Ua ahP ?_;all_goals simp [RK]
@[simp] theorem t146 (La:rA.length≤1048576):Gw TT 146 [.st (Bq k0 rA x8 xX),.st (Bq k1 rA x8 xX)]=some (vb true,[]):=by
 refine Ga Rg MY ?_;unfold MY;refine Ua La ?_;all_goals simp [Rg]
def I7 (x:an):Prop:=∀k0:Bool,x.sm→Gw TT 245 [.st [.ro false (di x.Kind),.ro false (di x.hZ),.ro false (di x.Op),.ro false (di x.V.Ty),.ro false (di x.V.N),.ro false (.str x.V.S),.ro k0 (.sl 7 (x.L.map an.e))]]=some (.st [.ro false (di x.Kind),.ro false (di x.hZ),.ro false (di x.Op),.ro false (di x.V.Ty),.ro false (di x.V.N),.ro false (.str x.V.S),.own (.sl 7 (x.L.map an.e))],[])
def Vs (l:List an):Prop:=∀k0:Bool,l.length≤1048576→an.aJ l→Gw TT 246 [.one (.ro k0 (.sl 7 (l.map an.e)))]=some (.one (.own (.sl 7 (l.map an.e))),[])
theorem Vt (l:List an) (IH:∀y∈l,I7 y):Vs l:=by
 intro k0 h hs;refine Ga RT NY ?_;unfold NY;refine Ud Oo ?_;repeat intro hc
 ·refine ba (σ:=List an×List an) (fun s=>[(0,AV.v k0 (D.sl 7 (zh an.e l)),none),(3,AV.pl 3 0 [],some (Rt.aX [C.own (D.sl 7 (s.1.map an.e++zq s.2.length [.int .i64 0,.int .i64 0,.int .i64 0,.int .i64 0,.int .i64 0,.str ⟨#[]⟩,.sl 7 []]))])),(4,vn (s.1.length:Nat),none)]) (fun s=>l=s.1++s.2) (fun s=>s.2.length) ([],l) (by simp) rfl ?_;rintro ⟨pre,rest⟩ h1;simp only at h1;subst h1;simp only [zb,za] at h;rcases rest with _|⟨⟨cO,eY,ch,⟨fF,fE,eZ⟩,a_⟩,rest⟩
  ·unfold Ta;refine Ud Oo ?_;all_goals simp [RT]
  ·unfold Ta;simp only [za] at h;have hw:=Wi ((pre.length:Int)+1);have hd:=an.su hs ⟨cO,eY,ch,⟨fF,fE,eZ⟩,a_⟩ (by simp);simp only [an.iJ,ab.sm,and_assoc] at hd;obtain ⟨L_,pJ,tI⟩:=hd;have ih:=IH ⟨cO,eY,ch,⟨fF,fE,eZ⟩,a_⟩ (by simp) k0 (an.su hs ⟨cO,eY,ch,⟨fF,fE,eZ⟩,a_⟩ (by simp));simp only at ih;refine Ud (J6 @ua hw ih L_ pJ tI) ?_;repeat intro hc
   all_goals exact ⟨(pre++[⟨cO,eY,ch,⟨fF,fE,eZ⟩,a_⟩],rest),by simp,by simp,by simp⟩
theorem adT (IH:Vs x.L):I7 x:=by
 intro k0 hx;obtain ⟨cd,cH,cG,⟨dG,dF,cV⟩,ao⟩:=x;simp only [an.iJ,ab.sm,and_assoc] at hx;obtain ⟨ahZ,gM,tH⟩:=hx;have ih:=IH k0 gM tH;simp only at ih;refine Ga RS NX ?_;unfold NX;refine Ua ih ?_;all_goals simp [RS]
theorem I8 (x:an):I7 x:=
 adT x (Vt x.L fun y hy=>I8 y)
termination_by zo x
decreasing_by
 have h1:=zB hy;have h2:zo x.L<zo x:=by cases x;simp;omega
 omega
@[simp] theorem t245 (ao:List an) (gM:ao.length≤1048576) (tH:an.aJ ao) (hv:cV.size≤1048576):Gw TT 245 [.st (rG k0 cd cH cG dG dF cV ao)]=some (.st [ri cd,ri cH,ri cG,ri dG,ri dF,.ro false (.str cV),.own (.sl 7 (ao.map an.e))],[]):=I8 ⟨cd,cH,cG,⟨dG,dF,cV⟩,ao⟩ k0 (by simp only [an.iJ,ab.sm,and_assoc];exact ⟨hv,gM,tH⟩)
@[simp] theorem t246 (l:List an) (h:l.length≤1048576) (hs:an.aJ l):Gw TT 246 [.one (rl k0 7 (l.map an.e))]=some (.one (.own (.sl 7 (l.map an.e))),[]):=Vt l (fun y _=>I8 y) k0 h hs
def IW (x:an):Prop:=∀k0 k1:Bool,x.sm→Gw TT 153 [.st [.ro false (di x.Kind),.ro false (di x.hZ),.ro false (di x.Op),.ro false (di x.V.Ty),.ro false (di x.V.N),.ro false (.str x.V.S),.ro k0 (.sl 7 (x.L.map an.e))],.st [.ro false (di x.Kind),.ro false (di x.hZ),.ro false (di x.Op),.ro false (di x.V.Ty),.ro false (di x.V.N),.ro false (.str x.V.S),.ro k1 (.sl 7 (x.L.map an.e))]]=some (vb true,[])
def Vl (l:List an):Prop:=∀k0 k1:Bool,l.length≤1048576→an.aJ l→Gw TT 154 [.one (.ro k0 (.sl 7 (l.map an.e))),.one (.ro k1 (.sl 7 (l.map an.e)))]=some (vb true,[])
theorem Vm (l:List an) (IH:∀y∈l,IW y):Vl l:=by
 intro k0 k1 h hs;refine Ga Rp M8 ?_;unfold M8;refine Ud Oo ?_
 ·refine ba (σ:=List an×List an) (fun s=>[(0,AV.v k0 (D.sl 7 (zh an.e l)),none),(1,AV.v k1 (D.sl 7 (zh an.e l)),none),(5,vn (s.1.length:Nat),none)]) (fun s=>l=s.1++s.2) (fun s=>s.2.length) ([],l) (by simp) rfl ?_;rintro ⟨pre,rest⟩ h1;simp only at h1;subst h1;simp only [zb,za] at h;rcases rest with _|⟨⟨cO,eY,ch,⟨fF,fE,eZ⟩,a_⟩,rest⟩
  ·unfold SO;refine Ud Oo ?_;all_goals simp [Rp]
  ·unfold SO;simp only [za] at h;have hw:=Wi ((pre.length:Int)+1);have hd:=an.su hs ⟨cO,eY,ch,⟨fF,fE,eZ⟩,a_⟩ (by simp);simp only [an.iJ,ab.sm,and_assoc] at hd;obtain ⟨L_,pJ,tI⟩:=hd;have ih:=IH ⟨cO,eY,ch,⟨fF,fE,eZ⟩,a_⟩ (by simp) k0 k1 (an.su hs ⟨cO,eY,ch,⟨fF,fE,eZ⟩,a_⟩ (by simp));simp only at ih;refine Ud (J5 hw ih L_ pJ tI) ?_;repeat intro hc
   all_goals exact ⟨(pre++[⟨cO,eY,ch,⟨fF,fE,eZ⟩,a_⟩],rest),by simp,by simp,by simp⟩
theorem adE (IH:Vl x.L):IW x:=by
 intro k0 k1 hx;obtain ⟨cd,cH,cG,⟨dG,dF,cV⟩,ao⟩:=x;simp only [an.iJ,ab.sm,and_assoc] at hx;obtain ⟨ahZ,gM,tH⟩:=hx;have ih:=IH k0 k1 gM tH;simp only at ih;refine Ga Ro M7 ?_;unfold M7;refine Ua ih ?_;all_goals simp [Ro]
theorem IX (x:an):IW x:=
 adE x (Vm x.L fun y hy=>IX y)
termination_by zo x
decreasing_by
 have h1:=zB hy;have h2:zo x.L<zo x:=by cases x;simp;omega
 omega
@[simp] theorem t153 (ao:List an) (jf:ao.length≤1048576) (me:an.aJ ao) (hv:cV.size≤1048576):Gw TT 153 [.st (rG k0 cd cH cG dG dF cV ao),.st (rG k1 cd cH cG dG dF cV ao)]=some (vb true,[]):=IX ⟨cd,cH,cG,⟨dG,dF,cV⟩,ao⟩ k0 k1 (by simp only [an.iJ,ab.sm,and_assoc];exact ⟨hv,jf,me⟩)
@[simp] theorem t154 (l:List an) (h:l.length≤1048576) (hs:an.aJ l):Gw TT 154 [.one (rl k0 7 (l.map an.e)),.one (rl k1 7 (l.map an.e))]=some (vb true,[]):=Vm l (fun y _=>IX y) k0 k1 h hs
@[simp] theorem t247 (yX:ke.size≤1048576) (yW:ik.length≤1048576) (y9:an.aJ ik) (yV:j_.length≤1048576):Gw TT 247 [.st (rF k0 cd nG nF nH nJ nI ke ik cH j_)]=some (.st [ri cd,ri nG,ri nF,ri nH,ri nJ,ri nI,.ro false (.str ke),.own (.sl 7 (ik.map an.e)),ri cH,.own (.sl 1 (j_.map ei))],[]):=by
 refine Ga RU NZ ?_;unfold NZ;refine Ua (J4 yX yW y9 yV) ?_;all_goals simp [RU]
@[simp] theorem t155 (Lj:ke.size≤1048576) (Li:ik.length≤1048576) (LA:an.aJ ik) (Lg:j_.length≤1048576):Gw TT 155 [.st (rF k0 cd nG nF nH nJ nI ke ik cH j_),.st (rF k1 cd nG nF nH nJ nI ke ik cH j_)]=some (vb true,[]):=by
 refine Ga Rq M9 ?_;unfold M9;refine Ua (J4 Lj Li LA Lg) ?_;all_goals simp [Rq]
@[simp] theorem t250 (ahX:oC.length≤1048576) (ah5:aA.aJ oC):Gw TT 250 [.st (E7 k0 oC du xY dG dF cV)]=some (.st [.own (.sl 2 (oC.map aA.e)),ri du,.ro false (.bool xY),ri dG,ri dF,.ro false (.str cV)],[]):=by
 refine Ga RX N2 ?_;unfold N2;refine Ua (J2 ahX ah5) ?_;all_goals simp [RX]
@[simp] theorem t158 (Lm:oC.length≤1048576) (LC:aA.aJ oC):Gw TT 158 [.st (E7 k0 oC du xY dG dF cV),.st (E7 k1 oC du xY dG dF cV)]=some (vb true,[]):=by
 refine Ga Ru Na ?_;unfold Na;refine Ua (J2 Lm LC) ?_;all_goals simp [Ru]
@[simp] theorem t255 (bJ fP ij:Int) (jw:Bool) (fm:List aA) (nq:dU.length≤1048576) (nt:ab.aJ dU) (np:fD.size≤1048576) (nm:dQ.length≤1048576) (nr:an.aJ dQ) (nk:fC.length≤1048576) (gM:ao.length≤1048576) (oS:fm.length≤1048576) (oT:aA.aJ fm):Gw TT 255 [.st (kr k0 cG jl jO dU fB iN iP iO iQ iS iR fD dQ iM fC jR ef ao jP jQ bJ fP ij jw fm)]=some (.st [ri cG,ri jl,ri jO,.own (.sl 3 (dU.map ab.e)),ri fB,ri iN,ri iP,ri iO,ri iQ,ri iS,ri iR,.ro false (.str fD),.own (.sl 7 (dQ.map an.e)),ri iM,.own (.sl 1 (fC.map ei)),ri jR,ri ef,.own (.sl 5 (ao.map aL.e)),ri jP,ri jQ,ri bJ,ri fP,ri ij,.ro false (.bool jw),.own (.sl 2 (fm.map aA.e))],[]):=by
 refine Ga R6 N7 ?_;unfold N7;refine Ua (J8 nq nt np nm nr nk gM (J2 oS oT)) ?_;all_goals simp [R6]
@[simp] theorem t256 (l:List bM) (h:l.length≤1048576) (hs:bM.aJ l):Gw TT 256 [.one (rl k0 25 (l.map bM.e))]=some (.one (.own (.sl 25 (l.map bM.e))),[]):=by
 refine Ga R7 N8 ?_;unfold N8;refine Ud Oo ?_;repeat intro hc
 ·refine ba (σ:=List bM×List bM) (fun s=>[(0,AV.v k0 (D.sl 25 (zh bM.e l)),none),(3,AV.pl 3 0 [],some (Rt.aX [C.own (D.sl 25 (s.1.map bM.e++zq s.2.length [.int .i64 0,.int .i64 0,.int .i64 0,.sl 3 [],.int .i64 0,.int .i64 0,.int .i64 0,.int .i64 0,.int .i64 0,.int .i64 0,.int .i64 0,.str ⟨#[]⟩,.sl 7 [],.int .i64 0,.sl 1 [],.int .i64 0,.int .i64 0,.sl 5 [],.int .i64 0,.int .i64 0,.int .i64 0,.int .i64 0,.int .i64 0,.bool false,.sl 2 []]))])),(4,vn (s.1.length:Nat),none)]) (fun s=>l=s.1++s.2) (fun s=>s.2.length) ([],l) (by simp) rfl ?_;rintro ⟨pre,rest⟩ h1;simp only at h1;subst h1;simp only [zb,za] at h;rcases rest with _|⟨⟨ch,lR,lO,eT,bU,⟨eK,⟨eN,eM,eP,⟨eS,eQ,eR⟩,eO⟩,eJ,eL⟩,lS,lT,a_,lP,lQ,ft,dH,kM,lU,lN⟩,rest⟩
  ·unfold Te;refine Ud Oo ?_;all_goals simp [R7]
  ·unfold Te;simp only [za] at h;have hw:=Wi ((pre.length:Int)+1);have hd:=hs ⟨ch,lR,lO,eT,bU,⟨eK,⟨eN,eM,eP,⟨eS,eQ,eR⟩,eO⟩,eJ,eL⟩,lS,lT,a_,lP,lQ,ft,dH,kM,lU,lN⟩ (by simp);simp only [bM.sm,ia.sm,an.iJ,ab.sm,and_assoc] at hd;obtain ⟨y8,Aa,y7,yZ,y_,yY,pJ,L3,Md⟩:=hd;refine Ud (J8 @ua hw y8 Aa y7 yZ y_ (J4 yY pJ L3 Md)) ?_;repeat intro hc
   all_goals exact ⟨(pre++[⟨ch,lR,lO,eT,bU,⟨eK,⟨eN,eM,eP,⟨eS,eQ,eR⟩,eO⟩,eJ,eL⟩,lS,lT,a_,lP,lQ,ft,dH,kM,lU,lN⟩],rest),by simp,by simp,by simp⟩
@[simp] theorem t163 (bJ fP ij:Int) (jw:Bool) (fm:List aA) (yM:dU.length≤1048576) (yO:ab.aJ dU) (yL:fD.size≤1048576) (yK:dQ.length≤1048576) (yN:an.aJ dQ) (yJ:fC.length≤1048576) (jf:ao.length≤1048576) (Le:fm.length≤1048576) (Lz:aA.aJ fm):Gw TT 163 [.st (kr k0 cG jl jO dU fB iN iP iO iQ iS iR fD dQ iM fC jR ef ao jP jQ bJ fP ij jw fm),.st (kr k1 cG jl jO dU fB iN iP iO iQ iS iR fD dQ iM fC jR ef ao jP jQ bJ fP ij jw fm)]=some (vb true,[]):=by
 refine Ga Rz Nh ?_;unfold Nh;refine Ua (J8 yM yO yL yK yN yJ jf (J2 Le Lz)) ?_;all_goals simp [Rz]
@[simp] theorem t164 (l:List bM) (h:l.length≤1048576) (hs:bM.aJ l):Gw TT 164 [.one (rl k0 25 (l.map bM.e)),.one (rl k1 25 (l.map bM.e))]=some (vb true,[]):=by
 refine Ga RB Ni ?_;unfold Ni;refine Ud Oo ?_
 ·refine ba (σ:=List bM×List bM) (fun s=>[(0,AV.v k0 (D.sl 25 (zh bM.e l)),none),(1,AV.v k1 (D.sl 25 (zh bM.e l)),none),(5,vn (s.1.length:Nat),none)]) (fun s=>l=s.1++s.2) (fun s=>s.2.length) ([],l) (by simp) rfl ?_;rintro ⟨pre,rest⟩ h1;simp only at h1;subst h1;simp only [zb,za] at h;rcases rest with _|⟨⟨ch,lR,lO,eT,bU,⟨eK,⟨eN,eM,eP,⟨eS,eQ,eR⟩,eO⟩,eJ,eL⟩,lS,lT,a_,lP,lQ,ft,dH,kM,lU,lN⟩,rest⟩
  ·unfold SU;refine Ud Oo ?_;all_goals simp [RB]
  ·unfold SU;simp only [za] at h;have hw:=Wi ((pre.length:Int)+1);have hd:=hs ⟨ch,lR,lO,eT,bU,⟨eK,⟨eN,eM,eP,⟨eS,eQ,eR⟩,eO⟩,eJ,eL⟩,lS,lT,a_,lP,lQ,ft,dH,kM,lU,lN⟩ (by simp);simp only [bM.sm,ia.sm,an.iJ,ab.sm,and_assoc] at hd;obtain ⟨y8,Aa,y7,yZ,y_,yY,pJ,L3,Md⟩:=hd;refine Ud (J8 hw y8 Aa y7 yZ y_ yY (J3 pJ L3 Md)) ?_;repeat intro hc
   all_goals exact ⟨(pre++[⟨ch,lR,lO,eT,bU,⟨eK,⟨eN,eM,eP,⟨eS,eQ,eR⟩,eO⟩,eJ,eL⟩,lS,lT,a_,lP,lQ,ft,dH,kM,lU,lN⟩],rest),by simp,by simp,by simp⟩
@[simp] theorem t241 (nq:dU.length≤1048576) (nt:ab.aJ dU) (np:fD.size≤1048576) (nm:dQ.length≤1048576) (nr:an.aJ dQ) (nk:fC.length≤1048576) (ahV:mX.length≤1048576) (ah4:aA.aJ mX) (ahW:pX.size≤1048576):Gw TT 241 [.st (vh k0 cG sF dU fB iN iP iO iQ iS iR fD dQ iM fC mX uv uu ux uw pX sy sE sB sC sD)]=some (.st [ri cG,ri sF,.own (.sl 3 (dU.map ab.e)),ri fB,ri iN,ri iP,ri iO,ri iQ,ri iS,ri iR,.ro false (.str fD),.own (.sl 7 (dQ.map an.e)),ri iM,.own (.sl 1 (fC.map ei)),.own (.sl 2 (mX.map aA.e)),ri uv,.ro false (.bool uu),ri ux,ri uw,.ro false (.str pX),ri sy,ri sE,ri sB,ri sC,ri sD],[]):=by
 refine Ga RN NT ?_;unfold NT;refine Ua (J8 nq nt np nm nr nk ahV (J2 ah4 ahW)) ?_;all_goals simp [RN]
@[simp] theorem t242 (l:List ca) (h:l.length≤1048576) (hs:ca.aJ l):Gw TT 242 [.one (rl k0 25 (l.map ca.e))]=some (.one (.own (.sl 25 (l.map ca.e))),[]):=by
 refine Ga RP NU ?_;unfold NU;refine Ud Oo ?_;repeat intro hc
 ·refine ba (σ:=List ca×List ca) (fun s=>[(0,AV.v k0 (D.sl 25 (zh ca.e l)),none),(3,AV.pl 3 0 [],some (Rt.aX [C.own (D.sl 25 (s.1.map ca.e++zq s.2.length [.int .i64 0,.int .i64 0,.sl 3 [],.int .i64 0,.int .i64 0,.int .i64 0,.int .i64 0,.int .i64 0,.int .i64 0,.int .i64 0,.str ⟨#[]⟩,.sl 7 [],.int .i64 0,.sl 1 [],.sl 2 [],.int .i64 0,.bool false,.int .i64 0,.int .i64 0,.str ⟨#[]⟩,.int .i64 0,.int .i64 0,.int .i64 0,.int .i64 0,.int .i64 0]))])),(4,vn (s.1.length:Nat),none)]) (fun s=>l=s.1++s.2) (fun s=>s.2.length) ([],l) (by simp) rfl ?_;rintro ⟨pre,rest⟩ h1;simp only at h1;subst h1;simp only [zb,za] at h;rcases rest with _|⟨⟨ch,jz,eT,bU,⟨eK,⟨eN,eM,eP,⟨eS,eQ,eR⟩,eO⟩,eJ,eL⟩,⟨ki,kh,kg,⟨ko,kj,km⟩⟩,jx,jy,g_,hU,hY⟩,rest⟩
  ·unfold S9;refine Ud Oo ?_;all_goals simp [RP]
  ·unfold S9;simp only [za] at h;have hw:=Wi ((pre.length:Int)+1);have hd:=hs ⟨ch,jz,eT,bU,⟨eK,⟨eN,eM,eP,⟨eS,eQ,eR⟩,eO⟩,eJ,eL⟩,⟨ki,kh,kg,⟨ko,kj,km⟩⟩,jx,jy,g_,hU,hY⟩ (by simp);simp only [ca.sm,ia.sm,an.iJ,ab.sm,mD.sm,and_assoc] at hd;obtain ⟨y8,Aa,y7,yZ,y_,yY,L7,Mf,L8⟩:=hd;refine Ud (J8 @ua hw y8 Aa y7 yZ y_ (J4 yY L7 Mf L8)) ?_;repeat intro hc
   all_goals exact ⟨(pre++[⟨ch,jz,eT,bU,⟨eK,⟨eN,eM,eP,⟨eS,eQ,eR⟩,eO⟩,eJ,eL⟩,⟨ki,kh,kg,⟨ko,kj,km⟩⟩,jx,jy,g_,hU,hY⟩],rest),by simp,by simp,by simp⟩
@[simp] theorem t149 (yM:dU.length≤1048576) (yO:ab.aJ dU) (yL:fD.size≤1048576) (yK:dQ.length≤1048576) (yN:an.aJ dQ) (yJ:fC.length≤1048576) (Lk:mX.length≤1048576) (LB:aA.aJ mX) (Ll:pX.size≤1048576):Gw TT 149 [.st (vh k0 cG sF dU fB iN iP iO iQ iS iR fD dQ iM fC mX uv uu ux uw pX sy sE sB sC sD),.st (vh k1 cG sF dU fB iN iP iO iQ iS iR fD dQ iM fC mX uv uu ux uw pX sy sE sB sC sD)]=some (vb true,[]):=by
 refine Ga Rj M1 ?_;unfold M1;refine Ua (J8 yM yO yL yK yN yJ Lk (J2 LB Ll)) ?_;all_goals simp [Rj]
@[simp] theorem t150 (l:List ca) (h:l.length≤1048576) (hs:ca.aJ l):Gw TT 150 [.one (rl k0 25 (l.map ca.e)),.one (rl k1 25 (l.map ca.e))]=some (vb true,[]):=by
 refine Ga Rk M4 ?_;unfold M4;refine Ud Oo ?_
 ·refine ba (σ:=List ca×List ca) (fun s=>[(0,AV.v k0 (D.sl 25 (zh ca.e l)),none),(1,AV.v k1 (D.sl 25 (zh ca.e l)),none),(5,vn (s.1.length:Nat),none)]) (fun s=>l=s.1++s.2) (fun s=>s.2.length) ([],l) (by simp) rfl ?_;rintro ⟨pre,rest⟩ h1;simp only at h1;subst h1;simp only [zb,za] at h;rcases rest with _|⟨⟨ch,jz,eT,bU,⟨eK,⟨eN,eM,eP,⟨eS,eQ,eR⟩,eO⟩,eJ,eL⟩,⟨ki,kh,kg,⟨ko,kj,km⟩⟩,jx,jy,g_,hU,hY⟩,rest⟩
  ·unfold SM;refine Ud Oo ?_;all_goals simp [Rk]
  ·unfold SM;simp only [za] at h;have hw:=Wi ((pre.length:Int)+1);have hd:=hs ⟨ch,jz,eT,bU,⟨eK,⟨eN,eM,eP,⟨eS,eQ,eR⟩,eO⟩,eJ,eL⟩,⟨ki,kh,kg,⟨ko,kj,km⟩⟩,jx,jy,g_,hU,hY⟩ (by simp);simp only [ca.sm,ia.sm,an.iJ,ab.sm,mD.sm,and_assoc] at hd;obtain ⟨y8,Aa,y7,yZ,y_,yY,L7,Mf,L8⟩:=hd;refine Ud (J8 hw y8 Aa y7 yZ y_ yY (J3 L7 Mf L8)) ?_;repeat intro hc
   all_goals exact ⟨(pre++[⟨ch,jz,eT,bU,⟨eK,⟨eN,eM,eP,⟨eS,eQ,eR⟩,eO⟩,eJ,eL⟩,⟨ki,kh,kg,⟨ko,kj,km⟩⟩,jx,jy,g_,hU,hY⟩],rest),by simp,by simp,by simp⟩
@[simp] theorem t259 (ahN:af.length≤1048576) (ahQ:au.length≤1048576) (ahM:ae.length≤1048576) (ah1:aU.aJ ae) (ahT:aj.length≤1048576) (ah0:aw.length≤1048576) (ahU:aH.length≤1048576) (ahY:aq.length≤1048576) (ah6:bM.aJ aq) (ahR:az.length≤1048576) (ah3:ca.aJ az):Gw TT 259 [.st (cb k0 af ax aM aG ak aI aK au ae aj aw aH aq az)]=some (.st [.own (.sl 1 (af.map ei)),ri ax,ri aM,ri aG,ri ak,ri aI,ri aK,.own (.sl 5 (au.map aL.e)),.own (.sl 5 (ae.map aU.e)),.own (.sl 1 (aj.map ei)),.own (.sl 3 (aw.map cD.e)),.own (.sl 1 (aH.map ei)),.own (.sl 25 (aq.map bM.e)),.own (.sl 25 (az.map ca.e))],[]):=by
 refine Ga R_ Oa ?_;unfold Oa;refine Ua (J8 ahN ahQ ahM ah1 ahT ah0 ahU (J4 ahY ah6 ahR ah3)) ?_;all_goals simp [R_]
@[simp] theorem t167 (K_:af.length≤1048576) (Lb:au.length≤1048576) (K9:ae.length≤1048576) (Lw:aU.aJ ae) (Lf:aj.length≤1048576) (Lp:aw.length≤1048576) (Lh:aH.length≤1048576) (Ln:aq.length≤1048576) (LD:bM.aJ aq) (Lc:az.length≤1048576) (Ly:ca.aJ az):Gw TT 167 [.st (cb k0 af ax aM aG ak aI aK au ae aj aw aH aq az),.st (cb k1 af ax aM aG ak aI aK au ae aj aw aH aq az)]=some (vb true,[]):=by
 refine Ga RF Nl ?_;unfold Nl;refine Ua (J8 K_ Lb K9 Lw Lf Lp Lh (J4 Ln LD Lc Ly)) ?_;all_goals simp [RF]
theorem t219 (l:List Int) (left:Int) (h0:0≤left) (h1:left≤1048576) (hl:l.length≤9223372036854775807):
 ∃n,Gw TT 219 [.one (rl k0 1 (l.map ei)),vi left]=some (vi n,[])∧-1≤n∧n≤left∧(0≤n→l.length≤1048576):=by
 refine jT (F:=Gv) rfl rfl ?_;show Wp _ Nw _ _;unfold Nw;have g:=Wi (left-(l.length:Int));refine Uw g ?_ ?_;all_goals repeat intro hc
 ·exact ⟨-1,by simp [Gv],by omega,by omega,fun h=>absurd h (by omega)⟩
 ·exact ⟨left-(l.length:Int),by simp [Gv],by omega,by omega,fun _=>by omega⟩
theorem t212 (l:List Int) (left:Int) (h0:0≤left) (h1:left≤1048576) (hl:l.length≤9223372036854775807):
 ∃n,Gw TT 212 [.one (rl k0 1 (l.map eb)),vi left]=some (vi n,[])∧-1≤n∧n≤left∧(0≤n→l.length≤1048576):=by
 refine jT (F:=Gq) rfl rfl ?_;show Wp _ Np _ _;unfold Np;have g:=Wi (left-(l.length:Int));refine Uw g ?_ ?_;all_goals repeat intro hc
 ·exact ⟨-1,by simp [Gq],by omega,by omega,fun h=>absurd h (by omega)⟩
 ·exact ⟨left-(l.length:Int),by simp [Gq],by omega,by omega,fun _=>by omega⟩
theorem t231 (h0:0≤left) (h1:left≤1048576) (aqJ:bJ.size≤9223372036854775807):
 ∃n,Gw TT 231 [.st (kO dB du bJ),vi left]=some (vi n,[])∧-1≤n∧n≤left∧(0≤n→bJ.size≤1048576):=by
 refine jT (F:=GB) rfl rfl ?_;show Wp _ NJ _ _;unfold NJ;have g1:=Wi (left-(bJ.size:Int));refine Uw g1 ?_ ?_;all_goals repeat intro hc
 ·exact ⟨-1,by simp [GB],by omega,by omega,fun h=>absurd h (by omega)⟩
 ·exact ⟨left-(bJ.size:Int),by simp [GB],by omega,by omega,fun _=>(by omega)⟩
theorem t232 (h0:0≤left) (h1:left≤1048576) (hl:l.length≤9223372036854775807) (ez:ab.dx l):
 ∃n,Gw TT 232 [.one (rl k0 3 (l.map ab.e)),vi left]=some (vi n,[])∧-1≤n∧n≤left∧(0≤n→l.length≤1048576∧ab.aJ l):=by
 refine jT (F:=Ec) rfl rfl ?_;show Wp _ NK _ _;unfold NK;have g:=Wi (left-(l.length:Int));refine Ud g ?_ ?_;all_goals repeat intro hc
 ·exact ⟨-1,by simp [Ec],by omega,by omega,fun h=>absurd h (by omega)⟩
 ·refine ba (σ:=List ab×List ab×Int) (fun s=>[(0,AV.v k0 (D.sl 3 (zh ab.e l)),none),(1,vn s.2.2,none),(5,vn (s.1.length:Nat),none)]) (fun s=>l=s.1++s.2.1∧0≤s.2.2∧s.2.2≤left-(l.length:Int)∧ab.aJ s.1) (fun s=>s.2.1.length) ([],l,left-(l.length:Int)) (by simp) ⟨rfl,by simp only;omega,by simp only;omega,fun y hy=>by simp at hy⟩ ?_;rintro ⟨pre,rest,lf⟩ ⟨h2,h3,h4,h5⟩;simp only at h2 h3 h4 h5;subst h2;simp only [zb,za] at hl h4 g;rcases rest with _|⟨⟨kN,kL,ft⟩,rest⟩
  ·unfold S5;refine Ud Oo ?_;simp only [zi] at h4;all_goals exact ⟨lf,by simp [Ec],by omega,by omega,fun _=>⟨by simp;omega,by simpa using h5⟩⟩
  ·unfold S5;simp only [za] at hl h4;have hw:=Wi ((pre.length:Int)+1);have hd:=ez ⟨kN,kL,ft⟩ (by simp);simp only [ab.ok,and_assoc] at hd;obtain ⟨aqE,ap3,aqt,apS,aho⟩:=hd;obtain ⟨n1,g1,a1,b1,s1⟩:=t231 kN kL ft lf (by omega) (by omega) aho;refine Ud (J2 g1 hw) ?_ ?_;all_goals repeat intro hc
   ·exact ⟨-1,by simp [Ec],by omega,by omega,fun h=>absurd h (by omega)⟩
   ·exact ⟨(pre++[⟨kN,kL,ft⟩],rest,n1),by simp,⟨by simp,by simp only;omega,by simp only [zb,za];omega,fun y hy=>by
     rcases zA.1 hy with hy|hy
     ·exact h5 y hy
     ·rw [zz.1 hy];simp only [ab.sm,and_assoc]
      exact s1 (by omega)⟩,by simp⟩
theorem t225 (ao:List ab) (left:Int) (h0:0≤left) (h1:left≤1048576) (jf:ao.length≤9223372036854775807) (me:ab.dx ao):
 ∃n,Gw TT 225 [.st [ri fB,rl k0 3 (ao.map ab.e)],vi left]=some (vi n,[])∧-1≤n∧n≤left∧(0≤n→ao.length≤1048576∧ab.aJ ao):=by
 refine jT (F:=Gz) rfl rfl ?_;show Wp _ NC _ _;unfold NC;obtain ⟨n1,g1,a1,b1,s1⟩:=t232 k0 ao left (by omega) (by omega) jf me;refine Uw g1 ?_ ?_;all_goals repeat intro hc
 ·exact ⟨-1,by simp [Gz],by omega,by omega,fun h=>absurd h (by omega)⟩
 ·exact ⟨n1,by simp [Gz],by omega,by omega,fun _=>⟨(s1 (by omega)).1,(s1 (by omega)).2⟩⟩
theorem t226 (l:List aA) (left:Int) (h0:0≤left) (h1:left≤1048576) (hl:l.length≤9223372036854775807) (ez:aA.dx l):
 ∃n,Gw TT 226 [.one (rl k0 2 (l.map aA.e)),vi left]=some (vi n,[])∧-1≤n∧n≤left∧(0≤n→l.length≤1048576∧aA.aJ l):=by
 refine jT (F:=D') rfl rfl ?_;show Wp _ ND _ _;unfold ND;have g:=Wi (left-(l.length:Int));refine Ud g ?_ ?_;all_goals repeat intro hc
 ·exact ⟨-1,by simp [D'],by omega,by omega,fun h=>absurd h (by omega)⟩
 ·refine ba (σ:=List aA×List aA×Int) (fun s=>[(0,AV.v k0 (D.sl 2 (zh aA.e l)),none),(1,vn s.2.2,none),(5,vn (s.1.length:Nat),none)]) (fun s=>l=s.1++s.2.1∧0≤s.2.2∧s.2.2≤left-(l.length:Int)∧aA.aJ s.1) (fun s=>s.2.1.length) ([],l,left-(l.length:Int)) (by simp) ⟨rfl,by simp only;omega,by simp only;omega,fun y hy=>by simp at hy⟩ ?_;rintro ⟨pre,rest,lf⟩ ⟨h2,h3,h4,h5⟩;simp only at h2 h3 h4 h5;subst h2;simp only [zb,za] at hl h4 g;rcases rest with _|⟨⟨bU,a_⟩,rest⟩
  ·unfold SZ;refine Ud Oo ?_;simp only [zi] at h4;all_goals exact ⟨lf,by simp [D'],by omega,by omega,fun _=>⟨by simp;omega,by simpa using h5⟩⟩
  ·unfold SZ;simp only [za] at hl h4;have hw:=Wi ((pre.length:Int)+1);have hd:=ez ⟨bU,a_⟩ (by simp);simp only [aA.ok,and_assoc] at hd;obtain ⟨aaV,aaO,Dn,FW⟩:=hd;obtain ⟨n1,g1,a1,b1,s1⟩:=t225 k0 bU a_ lf (by omega) (by omega) Dn FW;refine Ud (J2 g1 hw) ?_ ?_;all_goals repeat intro hc
   ·exact ⟨-1,by simp [D'],by omega,by omega,fun h=>absurd h (by omega)⟩
   ·exact ⟨(pre++[⟨bU,a_⟩],rest,n1),by simp,⟨by simp,by simp only;omega,by simp only [zb,za];omega,fun y hy=>by
     rcases zA.1 hy with hy|hy
     ·exact h5 y hy
     ·rw [zz.1 hy];simp only [aA.sm,and_assoc]
      exact s1 (by omega)⟩,by simp⟩
theorem t215 (l:List cD) (left:Int) (h0:0≤left) (h1:left≤1048576) (hl:l.length≤9223372036854775807):
 ∃n,Gw TT 215 [.one (rl k0 3 (l.map cD.e)),vi left]=some (vi n,[])∧-1≤n∧n≤left∧(0≤n→l.length≤1048576):=by
 refine jT (F:=Gt) rfl rfl ?_;show Wp _ Ns _ _;unfold Ns;have g:=Wi (left-(l.length:Int));refine Uw g ?_ ?_;all_goals repeat intro hc
 ·exact ⟨-1,by simp [Gt],by omega,by omega,fun h=>absurd h (by omega)⟩
 ·exact ⟨left-(l.length:Int),by simp [Gt],by omega,by omega,fun _=>by omega⟩
theorem t223 (l:List aL) (left:Int) (h0:0≤left) (h1:left≤1048576) (hl:l.length≤9223372036854775807):
 ∃n,Gw TT 223 [.one (rl k0 5 (l.map aL.e)),vi left]=some (vi n,[])∧-1≤n∧n≤left∧(0≤n→l.length≤1048576):=by
 refine jT (F:=Gy) rfl rfl ?_;show Wp _ NA _ _;unfold NA;have g:=Wi (left-(l.length:Int));refine Uw g ?_ ?_;all_goals repeat intro hc
 ·exact ⟨-1,by simp [Gy],by omega,by omega,fun h=>absurd h (by omega)⟩
 ·exact ⟨left-(l.length:Int),by simp [Gy],by omega,by omega,fun _=>by omega⟩
theorem t218 (h0:0≤left) (h1:left≤1048576) (jf:ao.length≤9223372036854775807):
 ∃n,Gw TT 218 [.st [ri ef,rl k0 5 (ao.map aL.e)],vi left]=some (vi n,[])∧-1≤n∧n≤left∧(0≤n→ao.length≤1048576):=by
 refine jT (F:=Gu) rfl rfl ?_;show Wp _ Nv _ _;unfold Nv;obtain ⟨n1,g1,a1,b1,s1⟩:=t223 k0 ao left (by omega) (by omega) jf;refine Uw g1 ?_ ?_;all_goals repeat intro hc
 ·exact ⟨-1,by simp [Gu],by omega,by omega,fun h=>absurd h (by omega)⟩
 ·exact ⟨n1,by simp [Gu],by omega,by omega,fun _=>(s1 (by omega))⟩
theorem t227 (ao:List ab) (left:Int) (h0:0≤left) (h1:left≤1048576) (jf:ao.length≤9223372036854775807) (me:ab.dx ao):
 ∃n,Gw TT 227 [.st [ri xZ,rl k0 3 (ao.map ab.e)],vi left]=some (vi n,[])∧-1≤n∧n≤left∧(0≤n→ao.length≤1048576∧ab.aJ ao):=by
 refine jT (F:=GA) rfl rfl ?_;show Wp _ NF _ _;unfold NF;obtain ⟨n1,g1,a1,b1,s1⟩:=t232 k0 ao left (by omega) (by omega) jf me;refine Uw g1 ?_ ?_;all_goals repeat intro hc
 ·exact ⟨-1,by simp [GA],by omega,by omega,fun h=>absurd h (by omega)⟩
 ·exact ⟨n1,by simp [GA],by omega,by omega,fun _=>⟨(s1 (by omega)).1,(s1 (by omega)).2⟩⟩
theorem t228 (l:List bp) (left:Int) (h0:0≤left) (h1:left≤1048576) (hl:l.length≤9223372036854775807) (ez:bp.dx l):
 ∃n,Gw TT 228 [.one (rl k0 2 (l.map bp.e)),vi left]=some (vi n,[])∧-1≤n∧n≤left∧(0≤n→l.length≤1048576∧bp.aJ l):=by
 refine jT (F:=Ea) rfl rfl ?_;show Wp _ NG _ _;unfold NG;have g:=Wi (left-(l.length:Int));refine Ud g ?_ ?_;all_goals repeat intro hc
 ·exact ⟨-1,by simp [Ea],by omega,by omega,fun h=>absurd h (by omega)⟩
 ·refine ba (σ:=List bp×List bp×Int) (fun s=>[(0,AV.v k0 (D.sl 2 (zh bp.e l)),none),(1,vn s.2.2,none),(5,vn (s.1.length:Nat),none)]) (fun s=>l=s.1++s.2.1∧0≤s.2.2∧s.2.2≤left-(l.length:Int)∧bp.aJ s.1) (fun s=>s.2.1.length) ([],l,left-(l.length:Int)) (by simp) ⟨rfl,by simp only;omega,by simp only;omega,fun y hy=>by simp at hy⟩ ?_;rintro ⟨pre,rest,lf⟩ ⟨h2,h3,h4,h5⟩;simp only at h2 h3 h4 h5;subst h2;simp only [zb,za] at hl h4 g;rcases rest with _|⟨⟨kf,a_⟩,rest⟩
  ·unfold S0;refine Ud Oo ?_;simp only [zi] at h4;all_goals exact ⟨lf,by simp [Ea],by omega,by omega,fun _=>⟨by simp;omega,by simpa using h5⟩⟩
  ·unfold S0;simp only [za] at hl h4;have hw:=Wi ((pre.length:Int)+1);have hd:=ez ⟨kf,a_⟩ (by simp);simp only [bp.ok,and_assoc] at hd;obtain ⟨aqo,apN,Dn,FW⟩:=hd;obtain ⟨n1,g1,a1,b1,s1⟩:=t227 k0 kf a_ lf (by omega) (by omega) Dn FW;refine Ud (J2 g1 hw) ?_ ?_;all_goals repeat intro hc
   ·exact ⟨-1,by simp [Ea],by omega,by omega,fun h=>absurd h (by omega)⟩
   ·exact ⟨(pre++[⟨kf,a_⟩],rest,n1),by simp,⟨by simp,by simp only;omega,by simp only [zb,za];omega,fun y hy=>by
     rcases zA.1 hy with hy|hy
     ·exact h5 y hy
     ·rw [zz.1 hy];simp only [bp.sm,and_assoc]
      exact s1 (by omega)⟩,by simp⟩
theorem t213 (ao:List bp) (left:Int) (h0:0≤left) (h1:left≤1048576) (jf:ao.length≤9223372036854775807) (me:bp.dx ao):
 ∃n,Gw TT 213 [.st [ri eu,rl k0 2 (ao.map bp.e)],vi left]=some (vi n,[])∧-1≤n∧n≤left∧(0≤n→ao.length≤1048576∧bp.aJ ao):=by
 refine jT (F:=Gr) rfl rfl ?_;show Wp _ Nq _ _;unfold Nq;obtain ⟨n1,g1,a1,b1,s1⟩:=t228 k0 ao left (by omega) (by omega) jf me;refine Uw g1 ?_ ?_;all_goals repeat intro hc
 ·exact ⟨-1,by simp [Gr],by omega,by omega,fun h=>absurd h (by omega)⟩
 ·exact ⟨n1,by simp [Gr],by omega,by omega,fun _=>⟨(s1 (by omega)).1,(s1 (by omega)).2⟩⟩
theorem t210 (h0:0≤left) (h1:left≤1048576) (K':fA.length≤9223372036854775807) (Lx:bp.dx fA) (Ld:eI.length≤9223372036854775807):
 ∃n,Gw TT 210 [.st (m_ k0 iL cd iy fA eI),vi left]=some (vi n,[])∧-1≤n∧n≤left∧(0≤n→fA.length≤1048576∧bp.aJ fA∧eI.length≤1048576):=by
 refine jT (F:=D5) rfl rfl ?_;show Wp _ Nn _ _;unfold Nn;obtain ⟨n1,g1,a1,b1,s1⟩:=t213 k0 iy fA left (by omega) (by omega) K' Lx;refine Uw g1 ?_ ?_;all_goals repeat intro hc
 ·exact ⟨-1,by simp [D5],by omega,by omega,fun h=>absurd h (by omega)⟩
 obtain ⟨n2,g2,a2,b2,s2⟩:=t212 k0 eI n1 (by omega) (by omega) Ld;refine Uw g2 ?_ ?_;all_goals repeat intro hc
 ·exact ⟨-1,by simp [D5],by omega,by omega,fun h=>absurd h (by omega)⟩
 ·exact ⟨n2,by simp [D5],by omega,by omega,fun _=>⟨(s1 (by omega)).1,(s1 (by omega)).2,(s2 (by omega))⟩⟩
theorem t211 (l:List aU) (left:Int) (h0:0≤left) (h1:left≤1048576) (hl:l.length≤9223372036854775807) (ez:aU.dx l):
 ∃n,Gw TT 211 [.one (rl k0 5 (l.map aU.e)),vi left]=some (vi n,[])∧-1≤n∧n≤left∧(0≤n→l.length≤1048576∧aU.aJ l):=by
 refine jT (F:=D6) rfl rfl ?_;show Wp _ No _ _;unfold No;have g:=Wi (left-(l.length:Int));refine Ud g ?_ ?_;all_goals repeat intro hc
 ·exact ⟨-1,by simp [D6],by omega,by omega,fun h=>absurd h (by omega)⟩
 ·refine ba (σ:=List aU×List aU×Int) (fun s=>[(0,AV.v k0 (D.sl 5 (zh aU.e l)),none),(1,vn s.2.2,none),(5,vn (s.1.length:Nat),none)]) (fun s=>l=s.1++s.2.1∧0≤s.2.2∧s.2.2≤left-(l.length:Int)∧aU.aJ s.1) (fun s=>s.2.1.length) ([],l,left-(l.length:Int)) (by simp) ⟨rfl,by simp only;omega,by simp only;omega,fun y hy=>by simp at hy⟩ ?_;rintro ⟨pre,rest,lf⟩ ⟨h2,h3,h4,h5⟩;simp only at h2 h3 h4 h5;subst h2;simp only [zb,za] at hl h4 g;rcases rest with _|⟨⟨dV,cO,⟨wN,wM⟩,wP⟩,rest⟩
  ·unfold SW;refine Ud Oo ?_;simp only [zi] at h4;all_goals exact ⟨lf,by simp [D6],by omega,by omega,fun _=>⟨by simp;omega,by simpa using h5⟩⟩
  ·unfold SW;simp only [za] at hl h4;have hw:=Wi ((pre.length:Int)+1);have hd:=ez ⟨dV,cO,⟨wN,wM⟩,wP⟩ (by simp);simp only [aU.ok,mC.ok,and_assoc] at hd;obtain ⟨aql,apK,aqr,apQ,aqj,apI,ahj,ahq,ahk,aqN⟩:=hd;obtain ⟨n1,g1,a1,b1,s1⟩:=t210 k0 dV cO wN wM wP lf (by omega) (by omega) ahj ahq ahk;refine Ud (J2 g1 hw) ?_ ?_;all_goals repeat intro hc
   ·exact ⟨-1,by simp [D6],by omega,by omega,fun h=>absurd h (by omega)⟩
   ·exact ⟨(pre++[⟨dV,cO,⟨wN,wM⟩,wP⟩],rest,n1),by simp,⟨by simp,by simp only;omega,by simp only [zb,za];omega,fun y hy=>by
     rcases zA.1 hy with hy|hy
     ·exact h5 y hy
     ·rw [zz.1 hy];simp only [aU.sm,mC.sm,and_assoc]
      exact s1 (by omega)⟩,by simp⟩
theorem t214 (h0:0≤left) (h1:left≤1048576) (La:rA.length≤9223372036854775807):
 ∃n,Gw TT 214 [.st (Bq k0 rA x8 xX),vi left]=some (vi n,[])∧-1≤n∧n≤left∧(0≤n→rA.length≤1048576):=by
 refine jT (F:=Gs) rfl rfl ?_;show Wp _ Nr _ _;unfold Nr;obtain ⟨n1,g1,a1,b1,s1⟩:=t219 k0 rA left (by omega) (by omega) La;refine Uw g1 ?_ ?_;all_goals repeat intro hc
 ·exact ⟨-1,by simp [Gs],by omega,by omega,fun h=>absurd h (by omega)⟩
 ·exact ⟨n1,by simp [Gs],by omega,by omega,fun _=>(s1 (by omega))⟩
def I3 (x:an):Prop:=∀(k0:Bool) (left:Int),0≤left→left≤1048576→x.ok→∃n,Gw TT 220 [.st [.ro false (di x.Kind),.ro false (di x.hZ),.ro false (di x.Op),.ro false (di x.V.Ty),.ro false (di x.V.N),.ro false (.str x.V.S),.ro k0 (.sl 7 (x.L.map an.e))],vi left]=some (vi n,[])∧-1≤n∧n≤left∧(0≤n→x.sm)
def Vr (l:List an):Prop:=∀(k0:Bool) (left:Int),0≤left→left≤1048576→l.length≤9223372036854775807→an.dx l→
 ∃n,Gw TT 221 [.one (.ro k0 (.sl 7 (l.map an.e))),vi left]=some (vi n,[])∧-1≤n∧n≤left∧(0≤n→l.length≤1048576∧an.aJ l)
theorem I5 (l:List an) (IH:∀y∈l,I3 y):Vr l:=by
 intro k0 left h0 h1 hl ez;refine jT (F:=D8) rfl rfl ?_;show Wp _ Ny _ _;unfold Ny;have g:=Wi (left-(l.length:Int));refine Ud g ?_ ?_;all_goals repeat intro hc
 ·exact ⟨-1,by simp [D8],by omega,by omega,fun h=>absurd h (by omega)⟩
 ·refine ba (σ:=List an×List an×Int) (fun s=>[(0,AV.v k0 (D.sl 7 (zh an.e l)),none),(1,vn s.2.2,none),(5,vn (s.1.length:Nat),none)]) (fun s=>l=s.1++s.2.1∧0≤s.2.2∧s.2.2≤left-(l.length:Int)∧an.aJ s.1) (fun s=>s.2.1.length) ([],l,left-(l.length:Int)) (by simp) ⟨rfl,by simp only;omega,by simp only;omega,by simp [an.aJ]⟩ ?_;rintro ⟨pre,rest,lf⟩ ⟨h2,h3,h4,h5⟩;simp only at h2 h3 h4 h5;subst h2;simp only [zb,za] at hl h4 g;rcases rest with _|⟨⟨cO,eY,ch,⟨fF,fE,eZ⟩,a_⟩,rest⟩
  ·unfold SY;refine Ud Oo ?_;simp only [zi] at h4;all_goals exact ⟨lf,by simp [D8],by omega,by omega,fun _=>⟨by simp;omega,by simpa using h5⟩⟩
  ·unfold SY;simp only [za] at hl h4;have hw:=Wi ((pre.length:Int)+1);obtain ⟨n1,g1,a1,b1,s1⟩:=IH ⟨cO,eY,ch,⟨fF,fE,eZ⟩,a_⟩ (by simp) k0 lf (by omega) (by omega) (an.akg ez ⟨cO,eY,ch,⟨fF,fE,eZ⟩,a_⟩ (by simp));simp only at g1;refine Ud (J2 g1 hw) ?_ ?_;all_goals repeat intro hc
   ·exact ⟨-1,by simp [D8],by omega,by omega,fun h=>absurd h (by omega)⟩
   ·exact ⟨(pre++[⟨cO,eY,ch,⟨fF,fE,eZ⟩,a_⟩],rest,n1),by simp,⟨by simp,by simp only;omega,by simp only [zb,za];omega,by
     rw [an.UL];intro y hy;rcases zA.1 hy with hy|hy
     ·exact an.su h5 y hy
     ·rw [zz.1 hy]
      exact s1 (by omega)⟩,by simp⟩
theorem adR (IH:Vr x.L):I3 x:=by
 intro k0 left h0 h1 hx;obtain ⟨cd,cH,cG,⟨dG,dF,cV⟩,ao⟩:=x;simp only [an.ok_eq,ab.ok,and_assoc] at hx;obtain ⟨aqe,apD,aqd,apC,aqf,apE,aqh,apG,aqg,apF,xo,jf,me⟩:=hx;refine jT (F:=wq) rfl rfl ?_;show Wp _ DW _ _;unfold DW;obtain ⟨n1,g1,a1,b1,s1⟩:=t231 dG dF cV left (by omega) (by omega) xo;refine Uw g1 ?_ ?_;all_goals repeat intro hc
 ·exact ⟨-1,by simp [wq],by omega,by omega,fun h=>absurd h (by omega)⟩
 obtain ⟨n2,g2,a2,b2,s2⟩:=IH k0 n1 (by omega) (by omega) jf me;simp only at g2;refine Uw g2 ?_ ?_;all_goals repeat intro hc
 ·exact ⟨-1,by simp [wq],by omega,by omega,fun h=>absurd h (by omega)⟩
 ·exact ⟨n2,by simp [wq],by omega,by omega,fun _=>by simp only [an.iJ,ab.sm,and_assoc];exact ⟨(s1 (by omega)),(s2 (by omega)).1,(s2 (by omega)).2⟩⟩
theorem I4 (x:an):I3 x:=
 adR x (I5 x.L fun y hy=>I4 y)
termination_by zo x
decreasing_by
 have h1:=zB hy;have h2:zo x.L<zo x:=by cases x;simp;omega
 omega
theorem adS (h0:0≤left) (h1:left≤1048576) (hv:x.V.S.size≤9223372036854775807) (hL:x.L.length≤9223372036854775807) (hs:an.dx x.L):
 ∃n,Gw TT 220 [.st [ri x.Kind,ri x.hZ,ri x.Op,ri x.V.Ty,ri x.V.N,.ro false (.str x.V.S),rl k0 7 (x.L.map an.e)],vi left]=some (vi n,[])∧-1≤n∧n≤left∧(0≤n→x.sm):=by
 have IH:=I5 x.L fun y _=>I4 y
 obtain ⟨cd,cH,cG,⟨dG,dF,cV⟩,ao⟩:=x;have xo:=hv;have jf:=hL;have me:=hs;simp only at xo jf me;refine jT (F:=wq) rfl rfl ?_;show Wp _ DW _ _;unfold DW;obtain ⟨n1,g1,a1,b1,s1⟩:=t231 dG dF cV left (by omega) (by omega) xo;refine Uw g1 ?_ ?_;all_goals repeat intro hc
 ·exact ⟨-1,by simp [wq],by omega,by omega,fun h=>absurd h (by omega)⟩
 obtain ⟨n2,g2,a2,b2,s2⟩:=IH k0 n1 (by omega) (by omega) jf me;simp only at g2;refine Uw g2 ?_ ?_;all_goals repeat intro hc
 ·exact ⟨-1,by simp [wq],by omega,by omega,fun h=>absurd h (by omega)⟩
 ·exact ⟨n2,by simp [wq],by omega,by omega,fun _=>by simp only [an.iJ,ab.sm,and_assoc];exact ⟨(s1 (by omega)),(s2 (by omega)).1,(s2 (by omega)).2⟩⟩
theorem t220 (ao:List an) (left:Int) (h0:0≤left) (h1:left≤1048576) (xo:cV.size≤9223372036854775807) (jf:ao.length≤9223372036854775807) (me:an.dx ao):
 ∃n,Gw TT 220 [.st (rG k0 cd cH cG dG dF cV ao),vi left]=some (vi n,[])∧-1≤n∧n≤left∧(0≤n→cV.size≤1048576∧ao.length≤1048576∧an.aJ ao):=by
 obtain ⟨n,g,a,b,s⟩:=adS ⟨cd,cH,cG,⟨dG,dF,cV⟩,ao⟩ k0 left h0 h1 xo jf me;exact ⟨n,g,a,b,fun h=>by have:=s h;simp only [an.iJ,ab.sm,and_assoc] at this;exact this⟩
theorem t221 (l:List an) (left:Int) (h0:0≤left) (h1:left≤1048576) (hl:l.length≤9223372036854775807) (ez:an.dx l):
 ∃n,Gw TT 221 [.one (rl k0 7 (l.map an.e)),vi left]=some (vi n,[])∧-1≤n∧n≤left∧(0≤n→l.length≤1048576∧an.aJ l):=I5 l (fun y _=>I4 y) k0 left h0 h1 hl ez
theorem t222 (h0:0≤left) (h1:left≤1048576) (Lj:ke.size≤9223372036854775807) (Li:ik.length≤9223372036854775807) (LA:an.dx ik) (Lg:j_.length≤9223372036854775807):
 ∃n,Gw TT 222 [.st (rF k0 cd nG nF nH nJ nI ke ik cH j_),vi left]=some (vi n,[])∧-1≤n∧n≤left∧(0≤n→ke.size≤1048576∧ik.length≤1048576∧an.aJ ik∧j_.length≤1048576):=by
 refine jT (F:=D9) rfl rfl ?_;show Wp _ Nz _ _;unfold Nz;obtain ⟨n1,g1,a1,b1,s1⟩:=t220 k0 nG nF nH nJ nI ke ik left (by omega) (by omega) Lj Li LA;refine Uw g1 ?_ ?_;all_goals repeat intro hc
 ·exact ⟨-1,by simp [D9],by omega,by omega,fun h=>absurd h (by omega)⟩
 obtain ⟨n2,g2,a2,b2,s2⟩:=t219 k0 j_ n1 (by omega) (by omega) Lg;refine Uw g2 ?_ ?_;all_goals repeat intro hc
 ·exact ⟨-1,by simp [D9],by omega,by omega,fun h=>absurd h (by omega)⟩
 ·exact ⟨n2,by simp [D9],by omega,by omega,fun _=>⟨(s1 (by omega)).1,(s1 (by omega)).2.1,(s1 (by omega)).2.2,(s2 (by omega))⟩⟩
theorem t224 (h0:0≤left) (h1:left≤1048576) (Lm:oC.length≤9223372036854775807) (LC:aA.dx oC) (xo:cV.size≤9223372036854775807):
 ∃n,Gw TT 224 [.st (E7 k0 oC du xY dG dF cV),vi left]=some (vi n,[])∧-1≤n∧n≤left∧(0≤n→oC.length≤1048576∧aA.aJ oC∧cV.size≤1048576):=by
 refine jT (F:=D_) rfl rfl ?_;show Wp _ NB _ _;unfold NB;obtain ⟨n1,g1,a1,b1,s1⟩:=t226 k0 oC left (by omega) (by omega) Lm LC;refine Uw g1 ?_ ?_;all_goals repeat intro hc
 ·exact ⟨-1,by simp [D_],by omega,by omega,fun h=>absurd h (by omega)⟩
 obtain ⟨n2,g2,a2,b2,s2⟩:=t231 dG dF cV n1 (by omega) (by omega) xo;refine Uw g2 ?_ ?_;all_goals repeat intro hc
 ·exact ⟨-1,by simp [D_],by omega,by omega,fun h=>absurd h (by omega)⟩
 ·exact ⟨n2,by simp [D_],by omega,by omega,fun _=>⟨(s1 (by omega)).1,(s1 (by omega)).2,(s2 (by omega))⟩⟩
theorem t229 (bJ fP ij:Int) (jw:Bool) (fm:List aA) (left:Int) (h0:0≤left) (h1:left≤1048576) (yM:dU.length≤9223372036854775807) (yO:ab.dx dU) (yL:fD.size≤9223372036854775807) (yK:dQ.length≤9223372036854775807) (yN:an.dx dQ) (yJ:fC.length≤9223372036854775807) (jf:ao.length≤9223372036854775807) (Le:fm.length≤9223372036854775807) (Lz:aA.dx fm):
 ∃n,Gw TT 229 [.st (kr k0 cG jl jO dU fB iN iP iO iQ iS iR fD dQ iM fC jR ef ao jP jQ bJ fP ij jw fm),vi left]=some (vi n,[])∧-1≤n∧n≤left∧(0≤n→dU.length≤1048576∧ab.aJ dU∧fD.size≤1048576∧dQ.length≤1048576∧an.aJ dQ∧fC.length≤1048576∧ao.length≤1048576∧fm.length≤1048576∧aA.aJ fm):=by
 refine jT (F:=AH) rfl rfl ?_;show Wp _ NH _ _;unfold NH;obtain ⟨n1,g1,a1,b1,s1⟩:=t232 k0 dU left (by omega) (by omega) yM yO;refine Uw g1 ?_ ?_;all_goals repeat intro hc
 ·exact ⟨-1,by simp [AH],by omega,by omega,fun h=>absurd h (by omega)⟩
 obtain ⟨n2,g2,a2,b2,s2⟩:=t222 k0 iN iP iO iQ iS iR fD dQ iM fC n1 (by omega) (by omega) yL yK yN yJ;refine Uw g2 ?_ ?_;all_goals repeat intro hc
 ·exact ⟨-1,by simp [AH],by omega,by omega,fun h=>absurd h (by omega)⟩
 obtain ⟨n3,g3,a3,b3,s3⟩:=t223 k0 ao n2 (by omega) (by omega) jf;refine Uw g3 ?_ ?_;all_goals repeat intro hc
 ·exact ⟨-1,by simp [AH],by omega,by omega,fun h=>absurd h (by omega)⟩
 obtain ⟨n4,g4,a4,b4,s4⟩:=t226 k0 fm n3 (by omega) (by omega) Le Lz;refine Uw g4 ?_ ?_;all_goals repeat intro hc
 ·exact ⟨-1,by simp [AH],by omega,by omega,fun h=>absurd h (by omega)⟩
 ·exact ⟨n4,by simp [AH],by omega,by omega,fun _=>⟨(s1 (by omega)).1,(s1 (by omega)).2,(s2 (by omega)).1,(s2 (by omega)).2.1,(s2 (by omega)).2.2.1,(s2 (by omega)).2.2.2,(s3 (by omega)),(s4 (by omega)).1,(s4 (by omega)).2⟩⟩
theorem t230 (l:List bM) (left:Int) (h0:0≤left) (h1:left≤1048576) (hl:l.length≤9223372036854775807) (ez:bM.dx l):
 ∃n,Gw TT 230 [.one (rl k0 25 (l.map bM.e)),vi left]=some (vi n,[])∧-1≤n∧n≤left∧(0≤n→l.length≤1048576∧bM.aJ l):=by
 refine jT (F:=Eb) rfl rfl ?_;show Wp _ NI _ _;unfold NI;have g:=Wi (left-(l.length:Int));refine Ud g ?_ ?_;all_goals repeat intro hc
 ·exact ⟨-1,by simp [Eb],by omega,by omega,fun h=>absurd h (by omega)⟩
 ·refine ba (σ:=List bM×List bM×Int) (fun s=>[(0,AV.v k0 (D.sl 25 (zh bM.e l)),none),(1,vn s.2.2,none),(5,vn (s.1.length:Nat),none)]) (fun s=>l=s.1++s.2.1∧0≤s.2.2∧s.2.2≤left-(l.length:Int)∧bM.aJ s.1) (fun s=>s.2.1.length) ([],l,left-(l.length:Int)) (by simp) ⟨rfl,by simp only;omega,by simp only;omega,fun y hy=>by simp at hy⟩ ?_;rintro ⟨pre,rest,lf⟩ ⟨h2,h3,h4,h5⟩;simp only at h2 h3 h4 h5;subst h2;simp only [zb,za] at hl h4 g;rcases rest with _|⟨⟨ch,lR,lO,eT,bU,⟨eK,⟨eN,eM,eP,⟨eS,eQ,eR⟩,eO⟩,eJ,eL⟩,lS,lT,a_,lP,lQ,ft,dH,kM,lU,lN⟩,rest⟩
  ·unfold S4;refine Ud Oo ?_;repeat intro hc
   simp only [zi] at h4;all_goals exact ⟨lf,by simp [Eb],by omega,by omega,fun _=>⟨by simp;omega,by simpa using h5⟩⟩
  ·unfold S4;simp only [za] at hl h4;have hw:=Wi ((pre.length:Int)+1);have hd:=ez ⟨ch,lR,lO,eT,bU,⟨eK,⟨eN,eM,eP,⟨eS,eQ,eR⟩,eO⟩,eJ,eL⟩,lS,lT,a_,lP,lQ,ft,dH,kM,lU,lN⟩ (by simp);simp only [bM.ok,ia.ok,an.ok_eq,ab.ok,and_assoc] at hd;obtain ⟨ag4,agA,aqv,apU,aqm,apL,Lt,LG,aaV,aaO,ag6,agC,ag8,agE,ag7,agD,ag9,agF,ag',agH,ag_,agG,Ls,Lr,LF,ag5,agB,Lq,ahp,aqD,ap2,aqF,ap4,Dn,FW,aqn,apM,aqq,apP,aqA,apZ,aqi,apH,aqu,apT,ahl,ahr⟩:=hd;obtain ⟨n1,g1,a1,b1,s1⟩:=t229 k0 ch lR lO eT bU eK eN eM eP eS eQ eR eO eJ eL lS lT a_ lP lQ ft dH kM lU lN lf (by omega) (by omega) Lt LG Ls Lr LF Lq Dn ahl ahr;refine Ud (J2 g1 hw) ?_ ?_;all_goals repeat intro hc
   ·exact ⟨-1,by simp [Eb],by omega,by omega,fun h=>absurd h (by omega)⟩
   ·exact ⟨(pre++[⟨ch,lR,lO,eT,bU,⟨eK,⟨eN,eM,eP,⟨eS,eQ,eR⟩,eO⟩,eJ,eL⟩,lS,lT,a_,lP,lQ,ft,dH,kM,lU,lN⟩],rest,n1),by simp,⟨by simp,by simp only;omega,by simp only [zb,za];omega,fun y hy=>by
     rcases zA.1 hy with hy|hy
     ·exact h5 y hy
     ·rw [zz.1 hy];simp only [bM.sm,ia.sm,an.iJ,ab.sm,and_assoc]
      exact s1 (by omega)⟩,by simp⟩
theorem t216 (h0:0≤left) (h1:left≤1048576) (yM:dU.length≤9223372036854775807) (yO:ab.dx dU) (yL:fD.size≤9223372036854775807) (yK:dQ.length≤9223372036854775807) (yN:an.dx dQ) (yJ:fC.length≤9223372036854775807) (Lk:mX.length≤9223372036854775807) (LB:aA.dx mX) (Ll:pX.size≤9223372036854775807):
 ∃n,Gw TT 216 [.st (vh k0 cG sF dU fB iN iP iO iQ iS iR fD dQ iM fC mX uv uu ux uw pX sy sE sB sC sD),vi left]=some (vi n,[])∧-1≤n∧n≤left∧(0≤n→dU.length≤1048576∧ab.aJ dU∧fD.size≤1048576∧dQ.length≤1048576∧an.aJ dQ∧fC.length≤1048576∧mX.length≤1048576∧aA.aJ mX∧pX.size≤1048576):=by
 refine jT (F:=B7) rfl rfl ?_;show Wp _ Nt _ _;unfold Nt;obtain ⟨n1,g1,a1,b1,s1⟩:=t232 k0 dU left (by omega) (by omega) yM yO;refine Uw g1 ?_ ?_;all_goals repeat intro hc
 ·exact ⟨-1,by simp [B7],by omega,by omega,fun h=>absurd h (by omega)⟩
 obtain ⟨n2,g2,a2,b2,s2⟩:=t222 k0 iN iP iO iQ iS iR fD dQ iM fC n1 (by omega) (by omega) yL yK yN yJ;refine Uw g2 ?_ ?_;all_goals repeat intro hc
 ·exact ⟨-1,by simp [B7],by omega,by omega,fun h=>absurd h (by omega)⟩
 obtain ⟨n3,g3,a3,b3,s3⟩:=t224 k0 mX uv uu ux uw pX n2 (by omega) (by omega) Lk LB Ll;refine Uw g3 ?_ ?_;all_goals repeat intro hc
 ·exact ⟨-1,by simp [B7],by omega,by omega,fun h=>absurd h (by omega)⟩
 ·exact ⟨n3,by simp [B7],by omega,by omega,fun _=>⟨(s1 (by omega)).1,(s1 (by omega)).2,(s2 (by omega)).1,(s2 (by omega)).2.1,(s2 (by omega)).2.2.1,(s2 (by omega)).2.2.2,(s3 (by omega)).1,(s3 (by omega)).2.1,(s3 (by omega)).2.2⟩⟩
theorem t217 (l:List ca) (left:Int) (h0:0≤left) (h1:left≤1048576) (hl:l.length≤9223372036854775807) (ez:ca.dx l):
 ∃n,Gw TT 217 [.one (rl k0 25 (l.map ca.e)),vi left]=some (vi n,[])∧-1≤n∧n≤left∧(0≤n→l.length≤1048576∧ca.aJ l):=by
 refine jT (F:=D7) rfl rfl ?_;show Wp _ Nu _ _;unfold Nu;have g:=Wi (left-(l.length:Int));refine Ud g ?_ ?_;all_goals repeat intro hc
 ·exact ⟨-1,by simp [D7],by omega,by omega,fun h=>absurd h (by omega)⟩
 ·refine ba (σ:=List ca×List ca×Int) (fun s=>[(0,AV.v k0 (D.sl 25 (zh ca.e l)),none),(1,vn s.2.2,none),(5,vn (s.1.length:Nat),none)]) (fun s=>l=s.1++s.2.1∧0≤s.2.2∧s.2.2≤left-(l.length:Int)∧ca.aJ s.1) (fun s=>s.2.1.length) ([],l,left-(l.length:Int)) (by simp) ⟨rfl,by simp only;omega,by simp only;omega,fun y hy=>by simp at hy⟩ ?_;rintro ⟨pre,rest,lf⟩ ⟨h2,h3,h4,h5⟩;simp only at h2 h3 h4 h5;subst h2;simp only [zb,za] at hl h4 g;rcases rest with _|⟨⟨ch,jz,eT,bU,⟨eK,⟨eN,eM,eP,⟨eS,eQ,eR⟩,eO⟩,eJ,eL⟩,⟨ki,kh,kg,⟨ko,kj,km⟩⟩,jx,jy,g_,hU,hY⟩,rest⟩
  ·unfold SX;refine Ud Oo ?_;repeat intro hc
   simp only [zi] at h4;all_goals exact ⟨lf,by simp [D7],by omega,by omega,fun _=>⟨by simp;omega,by simpa using h5⟩⟩
  ·unfold SX;simp only [za] at hl h4;have hw:=Wi ((pre.length:Int)+1);have hd:=ez ⟨ch,jz,eT,bU,⟨eK,⟨eN,eM,eP,⟨eS,eQ,eR⟩,eO⟩,eJ,eL⟩,⟨ki,kh,kg,⟨ko,kj,km⟩⟩,jx,jy,g_,hU,hY⟩ (by simp);simp only [ca.ok,ia.ok,an.ok_eq,ab.ok,mD.ok,and_assoc] at hd;obtain ⟨ag4,agA,aqC,ap1,Lt,LG,aaV,aaO,ag6,agC,ag8,agE,ag7,agD,ag9,agF,ag',agH,ag_,agG,Ls,Lr,LF,ag5,agB,Lq,ahp,ahm,ahs,aqw,apV,aqy,apX,aqx,apW,ahn,aqk,apJ,aqB,ap0,aqp,apO,aqs,apR,aqz,apY⟩:=hd;obtain ⟨n1,g1,a1,b1,s1⟩:=t216 k0 ch jz eT bU eK eN eM eP eS eQ eR eO eJ eL ki kh kg ko kj km jx jy g_ hU hY lf (by omega) (by omega) Lt LG Ls Lr LF Lq ahm ahs ahn;refine Ud (J2 g1 hw) ?_ ?_;all_goals repeat intro hc
   ·exact ⟨-1,by simp [D7],by omega,by omega,fun h=>absurd h (by omega)⟩
   ·exact ⟨(pre++[⟨ch,jz,eT,bU,⟨eK,⟨eN,eM,eP,⟨eS,eQ,eR⟩,eO⟩,eJ,eL⟩,⟨ki,kh,kg,⟨ko,kj,km⟩⟩,jx,jy,g_,hU,hY⟩],rest,n1),by simp,⟨by simp,by simp only;omega,by simp only [zb,za];omega,fun y hy=>by
     rcases zA.1 hy with hy|hy
     ·exact h5 y hy
     ·rw [zz.1 hy];simp only [ca.sm,ia.sm,an.iJ,ab.sm,mD.sm,and_assoc]
      exact s1 (by omega)⟩,by simp⟩
theorem t233 (h0:0≤left) (h1:left≤1048576) (K_:af.length≤9223372036854775807) (Lb:au.length≤9223372036854775807) (K9:ae.length≤9223372036854775807) (Lw:aU.dx ae) (Lf:aj.length≤9223372036854775807) (Lp:aw.length≤9223372036854775807) (Lh:aH.length≤9223372036854775807) (Ln:aq.length≤9223372036854775807) (LD:bM.dx aq) (Lc:az.length≤9223372036854775807) (Ly:ca.dx az):
 ∃n,Gw TT 233 [.st (cb k0 af ax aM aG ak aI aK au ae aj aw aH aq az),vi left]=some (vi n,[])∧-1≤n∧n≤left∧(0≤n→af.length≤1048576∧au.length≤1048576∧ae.length≤1048576∧aU.aJ ae∧aj.length≤1048576∧aw.length≤1048576∧aH.length≤1048576∧aq.length≤1048576∧bM.aJ aq∧az.length≤1048576∧ca.aJ az):=by
 refine jT (F:=tU) rfl rfl ?_;show Wp _ NL _ _;unfold NL;obtain ⟨n1,g1,a1,b1,s1⟩:=t214 k0 af ax aM left (by omega) (by omega) K_;refine Uw g1 ?_ ?_;all_goals repeat intro hc
 ·exact ⟨-1,by simp [tU],by omega,by omega,fun h=>absurd h (by omega)⟩
 obtain ⟨n2,g2,a2,b2,s2⟩:=t218 k0 aK au n1 (by omega) (by omega) Lb;refine Uw g2 ?_ ?_;all_goals repeat intro hc
 ·exact ⟨-1,by simp [tU],by omega,by omega,fun h=>absurd h (by omega)⟩
 obtain ⟨n3,g3,a3,b3,s3⟩:=t211 k0 ae n2 (by omega) (by omega) K9 Lw;refine Uw g3 ?_ ?_;all_goals repeat intro hc
 ·exact ⟨-1,by simp [tU],by omega,by omega,fun h=>absurd h (by omega)⟩
 obtain ⟨n4,g4,a4,b4,s4⟩:=t219 k0 aj n3 (by omega) (by omega) Lf;refine Uw g4 ?_ ?_;all_goals repeat intro hc
 ·exact ⟨-1,by simp [tU],by omega,by omega,fun h=>absurd h (by omega)⟩
 obtain ⟨n5,g5,a5,b5,s5⟩:=t215 k0 aw n4 (by omega) (by omega) Lp;refine Uw g5 ?_ ?_;all_goals repeat intro hc
 ·exact ⟨-1,by simp [tU],by omega,by omega,fun h=>absurd h (by omega)⟩
 obtain ⟨n6,g6,a6,b6,s6⟩:=t219 k0 aH n5 (by omega) (by omega) Lh;refine Uw g6 ?_ ?_;all_goals repeat intro hc
 ·exact ⟨-1,by simp [tU],by omega,by omega,fun h=>absurd h (by omega)⟩
 obtain ⟨n7,g7,a7,b7,s7⟩:=t230 k0 aq n6 (by omega) (by omega) Ln LD;refine Uw g7 ?_ ?_;all_goals repeat intro hc
 ·exact ⟨-1,by simp [tU],by omega,by omega,fun h=>absurd h (by omega)⟩
 obtain ⟨n8,g8,a8,b8,s8⟩:=t217 k0 az n7 (by omega) (by omega) Lc Ly;refine Uw g8 ?_ ?_;all_goals repeat intro hc
 ·exact ⟨-1,by simp [tU],by omega,by omega,fun h=>absurd h (by omega)⟩
 ·exact ⟨n8,by simp [tU],by omega,by omega,fun _=>⟨(s1 (by omega)),(s2 (by omega)),(s3 (by omega)).1,(s3 (by omega)).2,(s4 (by omega)),(s5 (by omega)),(s6 (by omega)),(s7 (by omega)).1,(s7 (by omega)).2,(s8 (by omega)).1,(s8 (by omega)).2⟩⟩
@[simp] theorem t87 (x a b:Int):Gw TT 87 [vi x,vi a,vi b]=some (vb (decide (a≤x)&&decide (x≤b)),[]):=by
 refine oD (F:=HB) rfl rfl ?_;show Wp _ Ra _ _;unfold Ra
 repeat' first|refine Zs ?_|((with_reducible refine Xk fun K k=>?_);simp;(repeat' (with_reducible first|refine k _ ?_|(refine fq ?_ ?_<;>(intro hc;(try rw [zd] at hc);first|(exfalso;omega)|(try simp [hc])))));all_goals clear k K)|refine Xt rfl ?_|refine Xf rfl ?_
 all_goals first|(simp_all [HB];done)|(simp_all [HB];omega)
@[simp] theorem arC (x a b:Int):Gw TT 377 [vi x,vi a,vi b]=some (vb (decide (a≤x)&&decide (x≤b)),[]):=by
 refine oD (F:=GO) rfl rfl ?_;show Wp _ OC _ _;unfold OC
 repeat' first|refine Zs ?_|((with_reducible refine Xk fun K k=>?_);simp;(repeat' (with_reducible first|refine k _ ?_|(refine fq ?_ ?_<;>(intro hc;(try rw [zd] at hc);first|(exfalso;omega)|(try simp [hc])))));all_goals clear k K)|refine Xt rfl ?_|refine Xf rfl ?_
 all_goals first|(simp_all [GO];done)|(simp_all [GO];omega)
def rM:List Int→Bool
 |[]=>true
 |p::l=>if p≠1∧p≠2 then false else rM l
def jo (l:List Int):Bool:=rM l&&(decide (1≤(l.length:Int))&&decide ((l.length:Int)≤3))
def qP (c:List Int) (s b:Int):Bool:=jo c&&(decide (1≤s)&&decide (s≤4))&&(decide (1≤b)&&decide (b≤8))
@[simp] theorem t12 (l:List Int) (h:l.length≤1048576):Gw TT 12 [.one (rl k0 1 (l.map ei))]=some (vb (jo l),[]):=by
 refine oD (F:=Gk) rfl rfl ?_;show Wp _ MR _ _;unfold MR
 repeat' first|refine Zs ?_|((with_reducible refine Xk fun K k=>?_);simp;(repeat' (with_reducible first|refine k _ ?_|(refine fq ?_ ?_<;>(intro hc;(try rw [zd] at hc);first|(exfalso;omega)|(try simp [hc])))));all_goals clear k K)|refine Xt rfl ?_|refine Xf rfl ?_|(refine We rfl ?_ ?_<;>(intro hc;(try simp at hc);(all_goals first|(exfalso;omega)|skip)))
 refine ba (σ:=List (Int)×List (Int)) (fun s=>[(0,AV.v k0 (D.sl 1 (l.map ei)),none),(5,AV.v k0 (D.sl 1 (l.map ei)),none),(6,vn (l.length:Nat),none),(7,vn ((s.1.length:Nat):Int),none)]) (fun s=>l=s.1++s.2∧rM s.2=rM l) (fun s=>s.2.length) ([],l) (by simp) ⟨rfl,rfl⟩ ?_;rintro ⟨pre,rest⟩ ⟨h1,h2⟩;simp only at h1 h2;subst h1;simp only [zb,za] at h;rcases rest with _|⟨d,rest⟩
 ·unfold SI;simp only [rM] at h2
  repeat' first|refine Zs ?_|((with_reducible refine Xk fun K k=>?_);simp;(repeat' (with_reducible first|refine k _ ?_|(refine fq ?_ ?_<;>(intro hc;(try rw [zd] at hc);first|(exfalso;omega)|(try simp [hc])))));all_goals clear k K)|refine Xt rfl ?_|refine Xf rfl ?_|(refine We rfl ?_ ?_<;>(intro hc;(try simp at hc);(all_goals first|(exfalso;omega)|skip)))
  simp_all [Gk,jo]
 ·unfold SI;simp only [za] at h;simp only [rM] at h2;have hw:=Wi ((pre.length:Int)+1) (by omega) (by omega)
  repeat' first|refine Zs ?_|((with_reducible refine Xk fun K k=>?_);simp [hw];(repeat' (with_reducible first|refine k _ ?_|(refine fq ?_ ?_<;>(intro hc;(try rw [zd] at hc);first|(exfalso;omega)|(try simp [hc,hw])))));all_goals clear k K)|refine Xt rfl ?_|refine Xf rfl ?_|(refine We rfl ?_ ?_<;>(intro hc;(try simp at hc);(all_goals first|(exfalso;omega)|skip)))
  all_goals first|(refine ⟨(pre++[d],rest),?_,⟨?_,?_⟩,?_⟩;(focus (first|(simp;done)|(simp_all;done)));(focus (simp;done));(focus (refine zp ?_ h2;clear h2;first|(simp [*];done)|(simp_all;done)|(split<;>simp_all<;>omega)|(split<;>first|(exfalso;omega)|(simp_all;done))));(focus (simp;done)))|(simp_all [Gk,jo];done)
@[simp] theorem t268 (l:List Int) (h:l.length≤1048576):Gw TT 268 [.one (rl k0 1 (l.map ei))]=some (vb (jo l),[]):=by
 refine oD (F:=GC) rfl rfl ?_;show Wp _ Od _ _;unfold Od
 repeat' first|refine Zs ?_|((with_reducible refine Xk fun K k=>?_);simp;(repeat' (with_reducible first|refine k _ ?_|(refine fq ?_ ?_<;>(intro hc;(try rw [zd] at hc);first|(exfalso;omega)|(try simp [hc])))));all_goals clear k K)|refine Xt rfl ?_|refine Xf rfl ?_|(refine We rfl ?_ ?_<;>(intro hc;(try simp at hc);(all_goals first|(exfalso;omega)|skip)))
 refine ba (σ:=List (Int)×List (Int)) (fun s=>[(0,AV.v k0 (D.sl 1 (l.map ei)),none),(3,vn ((s.1.length:Nat):Int),none)]) (fun s=>l=s.1++s.2∧rM s.2=rM l) (fun s=>s.2.length) ([],l) (by simp) ⟨rfl,rfl⟩ ?_;rintro ⟨pre,rest⟩ ⟨h1,h2⟩;simp only at h1 h2;subst h1;simp only [zb,za] at h;rcases rest with _|⟨d,rest⟩
 ·unfold Th;simp only [rM] at h2
  repeat' first|refine Zs ?_|((with_reducible refine Xk fun K k=>?_);simp;(repeat' (with_reducible first|refine k _ ?_|(refine fq ?_ ?_<;>(intro hc;(try rw [zd] at hc);first|(exfalso;omega)|(try simp [hc])))));all_goals clear k K)|refine Xt rfl ?_|refine Xf rfl ?_|(refine We rfl ?_ ?_<;>(intro hc;(try simp at hc);(all_goals first|(exfalso;omega)|skip)))
  simp_all [GC,jo]
 ·unfold Th;simp only [za] at h;simp only [rM] at h2;have hw:=Wi ((pre.length:Int)+1) (by omega) (by omega)
  repeat' first|refine Zs ?_|((with_reducible refine Xk fun K k=>?_);simp [hw];(repeat' (with_reducible first|refine k _ ?_|(refine fq ?_ ?_<;>(intro hc;(try rw [zd] at hc);first|(exfalso;omega)|(try simp [hc,hw])))));all_goals clear k K)|refine Xt rfl ?_|refine Xf rfl ?_|(refine We rfl ?_ ?_<;>(intro hc;(try simp at hc);(all_goals first|(exfalso;omega)|skip)))
  all_goals first|(refine ⟨(pre++[d],rest),?_,⟨?_,?_⟩,?_⟩;(focus (first|(simp;done)|(simp_all;done)));(focus (simp;done));(focus (refine zp ?_ h2;clear h2;first|(simp [*];done)|(simp_all;done)|(split<;>simp_all<;>omega)|(split<;>first|(exfalso;omega)|(simp_all;done))));(focus (simp;done)))|(split at h2<;>first|(exfalso;omega)|(simp_all [GC,jo];done))
attribute [irreducible] jo
@[simp] theorem t13 (c:List Int) (s b:Int) (h:c.length≤1048576):Gw TT 13 [.st (Bq k0 c s b)]=some (vb (qP c s b),[]):=by
 refine oD (F:=Gl) rfl rfl ?_;show Wp _ MS _ _;unfold MS
 repeat' first|refine Zs ?_|((with_reducible refine Xk fun K k=>?_);simp [h];(repeat' (with_reducible first|refine k _ ?_|(refine fq ?_ ?_<;>(intro hc;(try rw [zd] at hc);first|(exfalso;omega)|(try simp [hc,h])))));all_goals clear k K)|refine Xt rfl ?_|refine Xf rfl ?_
 all_goals first|(simp_all [Gl,qP];done)|(simp_all [Gl,qP];omega)
@[simp] theorem t269 (c:List Int) (s b:Int) (h:c.length≤1048576):Gw TT 269 [.st (Bq k0 c s b)]=some (vb (qP c s b),[]):=by
 refine oD (F:=GD) rfl rfl ?_;show Wp _ Oe _ _;unfold Oe
 repeat' first|refine Zs ?_|((with_reducible refine Xk fun K k=>?_);simp [h];(repeat' (with_reducible first|refine k _ ?_|(refine fq ?_ ?_<;>(intro hc;(try rw [zd] at hc);first|(exfalso;omega)|(try simp [hc,h])))));all_goals clear k K)|refine Xt rfl ?_|refine Xf rfl ?_
 all_goals first|(simp_all [GD,qP];done)|(simp_all [GD,qP];omega)
def pq (l:List aL):Int:=match l.getLast? with
 |none=>0
 |some r=>IntKind.wrap .i64 (r.iz+r.ek)
@[simp] theorem t16 (h:ao.length≤1048576):Gw TT 16 [.st [ri ef,rl k0 5 (ao.map aL.e)]]=some (vi (pq ao),[]):=by
 refine Ga Gp Nc ?_;unfold Nc;rcases Zb ao with rfl|⟨pre,r,rfl⟩
 ·refine Ud Oo ?_;all_goals simp [Gp,pq]
 ·simp only [Zc,zb,za,zi] at h;have hw:IntKind.wrap .i64 (pre.length:Int)=(pre.length:Int):=wrap_i64 (by omega) (by omega);refine Ud hw ?_;repeat intro hc
  all_goals simp [Gp,pq]
@[simp] theorem t296 (h:ao.length≤1048576):Gw TT 296 [.st [ri ef,rl k0 5 (ao.map aL.e)]]=some (vi (pq ao),[]):=by
 refine Ga GG Oj ?_;unfold Oj;rcases Zb ao with rfl|⟨pre,r,rfl⟩
 ·refine Ud Oo ?_;all_goals simp [GG,pq]
 ·simp only [Zc,zb,za,zi] at h;have hw:IntKind.wrap .i64 (pre.length:Int)=(pre.length:Int):=wrap_i64 (by omega) (by omega);refine Ud hw ?_;repeat intro hc
  all_goals simp [GG,pq]
def gY (b:Int):List aL→Bool
 |[]=>false
 |d::l=>if d.dW=b then true else gY b l
def rh (f m id:Int):Bool:=decide (0≤f)&&decide (f≤id)&&decide (IntKind.wrap .i64 (id-f)<m)
def xL (id:Int):Int→List aL→Int
 |_,[]=>-1
 |i,d::l=>if rh d.iz d.ek id then i else xL id (i+1) l
@[simp] theorem t22 (b:Int) (h:ao.length≤1048576):Gw TT 22 [.st [ri ef,rl k0 5 (ao.map aL.e)],vi b]=some (vb (gY b ao),[]):=by
 refine Ga Gx Nx ?_;unfold Nx;refine Ud Oo ?_;refine ba (σ:=List (aL)×List (aL)) (fun s=>[(1,vn b,none),(2,AV.bx 2 0,some (Rt.bx [ri ef,rl k0 5 (ao.map aL.e)])),(8,AV.v k0 (D.sl 5 (ao.map aL.e)),none),(9,vn (ao.length:Nat),none),(10,vn ((s.1.length:Nat):Int),none)]) (fun s=>ao=s.1++s.2∧gY b s.2=gY b ao) (fun s=>s.2.length) ([],ao) (by simp) ⟨rfl,rfl⟩ ?_;rintro ⟨pre,rest⟩ ⟨h1,h2⟩;simp only at h1 h2;subst h1;simp only [zb,za] at h;rcases rest with _|⟨d,rest⟩
 ·unfold S3;simp only [gY] at h2;refine Ud Oo ?_;simp_all [Gx]
 ·unfold S3;simp only [za] at h;simp only [gY] at h2;have hw:=Wi ((pre.length:Int)+1);refine Ud hw ?_ ?_;all_goals repeat intro hc
  all_goals first|(refine ⟨(pre++[d],rest),?_,⟨?_,?_⟩,?_⟩;(focus (first|(simp;done)|(simp_all;done)));(focus (simp;done));(focus (refine zp ?_ h2;clear h2;first|(simp [*];done)|(simp_all;done)|(split<;>simp_all<;>omega)|(split<;>first|(exfalso;omega)|(simp_all;done))));(focus (simp;done)))|(simp_all [Gx];done)
@[simp] theorem t301 (b:Int) (h:ao.length≤1048576):Gw TT 301 [.st [ri ef,rl k0 5 (ao.map aL.e)],vi b]=some (vb (gY b ao),[]):=by
 refine Ga GH Ol ?_;unfold Ol;refine Ud Oo ?_;refine ba (σ:=List (aL)×List (aL)) (fun s=>[(1,vn b,none),(2,AV.bx 2 0,some (Rt.bx [ri ef,rl k0 5 (ao.map aL.e)])),(5,vn ((s.1.length:Nat):Int),none)]) (fun s=>ao=s.1++s.2∧gY b s.2=gY b ao) (fun s=>s.2.length) ([],ao) (by simp) ⟨rfl,rfl⟩ ?_;rintro ⟨pre,rest⟩ ⟨h1,h2⟩;simp only at h1 h2;subst h1;simp only [zb,za] at h;rcases rest with _|⟨d,rest⟩
 ·unfold Tk;simp only [gY] at h2;refine Ud Oo ?_;simp_all [GH]
 ·unfold Tk;simp only [za] at h;simp only [gY] at h2;have hw:=Wi ((pre.length:Int)+1);refine Ud hw ?_ ?_;all_goals repeat intro hc
  all_goals first|(refine ⟨(pre++[d],rest),?_,⟨?_,?_⟩,?_⟩;(focus (first|(simp;done)|(simp_all;done)));(focus (simp;done));(focus (refine zp ?_ h2;clear h2;first|(simp [*];done)|(simp_all;done)|(split<;>simp_all<;>omega)|(split<;>first|(exfalso;omega)|(simp_all;done))));(focus (simp;done)))|(simp_all [GH];done)
@[simp] theorem t77 (oB iL cd sA qL id:Int):Gw TT 77 [.st (lX oB iL cd sA qL),vi id]=some (vb (rh sA qL id),[]):=by
 refine Ga Hy Q3 ?_;unfold Q3;refine Ud Oo ?_ ?_ ?_;all_goals repeat intro hc
 all_goals first|(simp_all [Hy,rh];done)|(simp_all [Hy,rh];omega)
@[simp] theorem t322 (b:Int) (h:ao.length≤1048576):Gw TT 322 [.st [ri ef,rl k0 5 (ao.map aL.e)],vi b]=some (vi (xL b 0 ao),[]):=by
 refine Ga GJ Ot ?_;unfold Ot;refine Ud Oo ?_;refine ba (σ:=List (aL)×List (aL)) (fun s=>[(1,vn b,none),(2,AV.bx 2 0,some (Rt.bx [ri ef,rl k0 5 (ao.map aL.e)])),(5,vn ((s.1.length:Nat):Int),none)]) (fun s=>ao=s.1++s.2∧xL b ((s.1.length:Nat):Int) s.2=xL b (0:Int) ao) (fun s=>s.2.length) ([],ao) (by simp) ⟨rfl,rfl⟩ ?_;rintro ⟨pre,rest⟩ ⟨h1,h2⟩;simp only at h1 h2;subst h1;simp only [zb,za] at h;rcases rest with _|⟨d,rest⟩
 ·unfold Tm;simp only [xL,rh,ze,decide_eq_true_eq] at h2;refine Ud Oo ?_;simp_all [GJ]
 ·unfold Tm;simp only [za] at h;simp only [xL,rh,ze,decide_eq_true_eq] at h2;have hw:=Wi ((pre.length:Int)+1);refine Ud hw ?_ ?_ ?_ ?_;all_goals repeat intro hc
  all_goals first|(refine ⟨(pre++[d],rest),?_,⟨?_,?_⟩,?_⟩;(focus (first|(simp;done)|(simp_all;done)));(focus (simp;done));(focus (refine zp ?_ h2;clear h2;first|(simp [*];done)|(simp_all;done)|(split<;>simp_all<;>omega)|(split<;>first|(exfalso;omega)|(simp_all;done))));(focus (simp;done)))|(simp_all [GJ];done)
theorem x9 {α β:Type}:∀(l:List α) (m:List β),l.length=m.length→∃z:List (α×β),l=z.map zu∧m=z.map zw
 |[],[],_=>⟨[],rfl,rfl⟩
 |a::l,b::m,h=>by
  obtain ⟨z,rfl,rfl⟩:=x9 l m (by simpa using h);exact ⟨(a,b)::z,rfl,rfl⟩
theorem zip_map {α β:Type} (z:List (α×β)):(z.map zu).zip (z.map zw)=z:=by
 induction z with
 |nil=>rfl
 |cons p z ih=>simp [ih]
def sn (b g k m:Int):Bool:=decide (0≤b)&&decide (0≤g)&&(decide (1≤k)&&decide (k≤2))&&(decide (1≤m)&&decide (m≤1000000000))
@[simp] theorem t82:Gw TT 82 [.st (lX oB iL cd sA qL)]=some (vb (sn oB iL cd qL),[]):=by
 refine Ga HA Q8 ?_;unfold Q8;refine Ud Oo ?_ ?_ ?_ ?_ ?_;all_goals repeat intro hc
 all_goals first|(simp_all [HA,sn];done)|(simp [HA,sn];omega)
@[simp] theorem arz:Gw TT 370 [.st (lX oB iL cd sA qL)]=some (vb (sn oB iL cd qL),[]):=by
 refine Ga GL Oz ?_;unfold Oz;refine Ud Oo ?_ ?_ ?_ ?_ ?_;all_goals repeat intro hc
 all_goals first|(simp_all [GL,sn];done)|(simp [GL,sn];omega)
def pQ (op pc:Int):Bool:=(op !=0)&&decide (1≤pc)
def apd (op pc:Int):Bool:=(op==3)&&decide (2≤pc)
@[simp] theorem t29 (bJ fP ij:Int) (jw:Bool) (fm:List aA):Gw TT 29 [.st (kr k0 cG jl jO dU fB iN iP iO iQ iS iR fD dQ iM fC jR ef ao jP jQ bJ fP ij jw fm)]=some (vb (pQ cG jl),[]):=by
 refine Ga Sc Oi ?_;unfold Oi;refine Ud Oo ?_ ?_;all_goals repeat intro hc
 all_goals simp_all [Sc,pQ]
@[simp] theorem t308 (bJ fP ij:Int) (jw:Bool) (fm:List aA):Gw TT 308 [.st (kr k0 cG jl jO dU fB iN iP iO iQ iS iR fD dQ iM fC jR ef ao jP jQ bJ fP ij jw fm)]=some (vb (pQ cG jl),[]):=by
 refine Ga Sd Om ?_;unfold Om;refine Ud Oo ?_ ?_;all_goals repeat intro hc
 all_goals simp_all [Sd,pQ]
@[simp] theorem t27 (bJ fP ij:Int) (jw:Bool) (fm:List aA):Gw TT 27 [.st (kr k0 cG jl jO dU fB iN iP iO iQ iS iR fD dQ iM fC jR ef ao jP jQ bJ fP ij jw fm)]=some (vb (cG==0),[]):=by
 refine Ga Sb Of ?_;unfold Of;refine Ua Oo ?_;simp_all [Sb]
def vz (op task code alF inv id F_ ret:Int):Bool:=
 decide (1≤op∧op≤4∧0≤task∧task≤4∧0≤code∧code≤5∧0≤alF∧0≤inv∧-1≤id∧(F_=-1∨inv≤F_)∧(ret=-1∨(F_≠-1∧F_≤ret)))
@[simp] theorem t14:Gw TT 14 [.st (vh k0 cG sF dU fB iN iP iO iQ iS iR fD dQ iM fC mX uv uu ux uw pX sy sE sB sC sD)]=some (vb (vz cG sF sy sE sB fB sC sD),[]):=by
 refine Ga Gm MT ?_;unfold MT
 repeat' first|refine Zs ?_|((with_reducible refine Xk fun K k=>?_);simp;(repeat' (with_reducible first|refine k _ ?_|(refine fq ?_ ?_<;>(intro hc;(try rw [zd] at hc);first|(exfalso;omega)|(try simp [hc])))));all_goals clear k K)|refine Xt rfl ?_|refine Xf rfl ?_|(refine We rfl ?_ ?_<;>(intro hc;(try simp at hc);(all_goals first|(exfalso;omega)|skip)))
 all_goals first|(simp_all [Gm,vz];done)|(simp [Gm,vz];omega)
@[simp] theorem t270:Gw TT 270 [.st (vh k0 cG sF dU fB iN iP iO iQ iS iR fD dQ iM fC mX uv uu ux uw pX sy sE sB sC sD)]=some (vb (vz cG sF sy sE sB fB sC sD),[]):=by
 refine Ga GF Og ?_;unfold Og
 repeat' first|refine Zs ?_|((with_reducible refine Xk fun K k=>?_);simp;(repeat' (with_reducible first|refine k _ ?_|(refine fq ?_ ?_<;>(intro hc;(try rw [zd] at hc);first|(exfalso;omega)|(try simp [hc])))));all_goals clear k K)|refine Xt rfl ?_|refine Xf rfl ?_|(refine We rfl ?_ ?_<;>(intro hc;(try simp at hc);(all_goals first|(exfalso;omega)|skip)))
 all_goals first|(simp_all [GF,vz];done)|(simp [GF,vz];omega)
theorem UO {α:Type} (l:List α) (i:Nat) (h:i<l.length):∃pre x rest,l=pre++x::rest∧pre.length=i:=
 ⟨l.take i,l[i],l.drop (i+1),by simp,by simp;omega⟩
def jk (B:List aU) (buf gen kind many:Int):Bool:=decide (0≤buf)&&match B[buf.toNat]? with
 |some b=>b.fW==gen&&b.Kind==kind&&(kind !=1||(b.C.L.length:Int)==many)
 |none=>false
theorem ID {B:List aU} {buf gen kind many:Int} (h:¬(0≤buf∧buf<(B.length:Int))):jk B buf gen kind many=false:=by
 unfold jk;by_cases h0:0≤buf
 ·rw [zR (by omega)];simp
 ·simp [h0]
@[simp] theorem t59 (h:ae.length≤1048576):Gw TT 59 [.st (cb k0 af ax aM aG ak aI aK au ae aj aw aH aq az),.st (lX bo bz bV bj aZ)]=some (vb (jk ae bo bz bV aZ),[]):=by
 refine Ga Ht QQ ?_;unfold QQ;by_cases hb:0≤bo∧bo<(ae.length:Int)
 ·obtain ⟨pre,b,rest,rfl,hp⟩:=UO ae bo.toNat (by omega);obtain rfl:bo=(pre.length:Int):=by omega
  simp only [zb,za] at h hb;have hw:=Wi ((pre.length:Int)+((rest.length:Int)+1)-1);refine Uc hw ?_ ?_ ?_ ?_;all_goals repeat intro hc
  all_goals simp_all [Ht,jk]
 ·have hf:=ID (gen:=bz) (kind:=bV) (many:=aZ) hb;have hw:=Wi ((ae.length:Int)-1);refine Uc hw ?_ ?_;all_goals repeat intro hc
  all_goals simp_all [Ht]
@[simp] theorem t340 (h:ae.length≤1048576):Gw TT 340 [.st (cb k0 af ax aM aG ak aI aK au ae aj aw aH aq az),.st (lX bo bz bV bj aZ)]=some (vb (jk ae bo bz bV aZ),[]):=by
 refine Ga GK Ov ?_;unfold Ov;by_cases hb:0≤bo∧bo<(ae.length:Int)
 ·obtain ⟨pre,b,rest,rfl,hp⟩:=UO ae bo.toNat (by omega);obtain rfl:bo=(pre.length:Int):=by omega
  simp only [zb,za] at h hb;have hw:=Wi ((pre.length:Int)+((rest.length:Int)+1)-1);refine Uc hw ?_ ?_ ?_ ?_;all_goals repeat intro hc
  all_goals simp_all [GK,jk]
 ·have hf:=ID (gen:=bz) (kind:=bV) (many:=aZ) hb;have hw:=Wi ((ae.length:Int)-1);refine Uc hw ?_;repeat intro hc
  simp_all [GK]
@[simp] theorem asN {α:Type} {n:Nat} (l r:List α) (h:n=l.length):(l++r).take n=l:=by subst h;simp
def pn:List aL→Int→List aL→Bool
 |_,_,[]=>true
 |p,e,r::l=>if sn r.dW r.fW r.Kind r.ek=true∧r.iz=e∧gY r.dW p=false then pn (p++[r]) (IntKind.wrap .i64 (e+r.ek)) l else false
def lZ (v:Int) (l:List aL):Bool:=decide (0≤v)&&decide ((l.length:Int)≤8)&&pn [] 0 l
theorem alW (h:ao.length≤1048577):Gw TT 15 [.st [ri ef,rl k0 5 (ao.map aL.e)]]=some (vb (lZ ef ao),[]):=by
 refine Ga D4 M3 ?_;unfold M3;refine Ud Oo ?_ ?_ ?_;all_goals repeat intro hc
 all_goals first|(simp [D4,lZ];omega)|skip
 refine ba (σ:=List aL×List aL×Int) (fun s=>[(1,AV.bx 1 0,some (Rt.bx [ri ef,rl k0 5 (ao.map aL.e)])),(3,vn s.2.2,none),(16,AV.v k0 (D.sl 5 (ao.map aL.e)),none),(17,vn (ao.length:Nat),none),(18,vn ((s.1.length:Nat):Int),none)]) (fun s=>ao=s.1++s.2.1∧pn s.1 s.2.2 s.2.1=pn [] 0 ao) (fun s=>s.2.1.length) ([],ao,0) (by simp) ⟨rfl,rfl⟩ ?_;rintro ⟨pre,rest,a⟩ ⟨h1,h2⟩;simp only at h1 h2;subst h1;simp only [zb,za] at h;rcases rest with _|⟨d,rest⟩
 ·unfold SQ;simp only [pn] at h2;refine Ud Oo ?_;simp_all [D4,lZ]
 ·unfold SQ;simp only [za] at h;simp only [pn] at h2;have hw:=Wi ((pre.length:Int)+1);have hb:((pre.length:Int)≤(pre.length:Int)+((rest.length:Int)+1)):=by omega
  have hl:pre.length≤1048576:=by omega
  refine Ud (J3 hw hb hl) ?_ ?_ ?_ ?_;all_goals repeat intro hc
  all_goals first|(refine ⟨(pre++[d],rest,IntKind.wrap .i64 (a+d.ek)),?_,⟨?_,?_⟩,?_⟩;(focus (first|(simp;done)|(simp_all;done)));(focus (simp;done));(focus (refine zp ?_ h2;clear h2;first|(simp [*];done)|(simp_all;done)));(focus (simp;done)))|(simp_all [D4,lZ];done)
@[simp] theorem t15 (h:ao.length≤1048576):Gw TT 15 [.st [ri ef,rl k0 5 (ao.map aL.e)]]=some (vb (lZ ef ao),[]):=alW k0 ef ao (by omega)
theorem alX (h:ao.length≤1048577):Gw TT 271 [.st [ri ef,rl k0 5 (ao.map aL.e)]]=some (vb (lZ ef ao),[]):=by
 refine Ga B8 Oh ?_;unfold Oh;refine Ud Oo ?_ ?_;all_goals repeat intro hc
 all_goals first|(simp [B8,lZ];omega)|skip
 refine ba (σ:=List aL×List aL×Int) (fun s=>[(1,AV.bx 1 0,some (Rt.bx [ri ef,rl k0 5 (ao.map aL.e)])),(3,vn s.2.2,none),(4,vn ((s.1.length:Nat):Int),none)]) (fun s=>ao=s.1++s.2.1∧pn s.1 s.2.2 s.2.1=pn [] 0 ao) (fun s=>s.2.1.length) ([],ao,0) (by simp) ⟨rfl,rfl⟩ ?_;rintro ⟨pre,rest,a⟩ ⟨h1,h2⟩;simp only at h1 h2;subst h1;simp only [zb,za] at h;rcases rest with _|⟨d,rest⟩
 ·unfold Tj;simp only [pn] at h2;refine Ud Oo ?_;simp_all [B8,lZ]
 ·unfold Tj;simp only [za] at h;simp only [pn] at h2;have hw:=Wi ((pre.length:Int)+1);refine Ud hw ?_ ?_ ?_ ?_;all_goals repeat intro hc
  all_goals first|(simp_all [B8,lZ];done)|skip
  have hr:sn d.dW d.fW d.Kind d.ek=true:=by simpa using ‹¬sn d.dW d.fW d.Kind d.ek=false›
  have hd:d.iz=a:=by assumption
  refine ba (σ:=List aL×List aL) (fun s=>[(1,AV.bx 1 0,some (Rt.bx [ri ef,rl k0 5 ((pre++d::rest).map aL.e)])),(3,vn (IntKind.wrap .i64 (a+d.ek)),none),(4,vn ((pre.length:Nat):Int),none),(5,vn ((s.1.length:Nat):Int),none)]) (fun s=>pre=s.1++s.2∧gY d.dW s.2=gY d.dW pre) (fun s=>s.2.length) ([],pre) (by simp) ⟨rfl,rfl⟩ ?_;rintro ⟨p1,p2⟩ ⟨h3,h4⟩;simp only at h3 h4;rcases p2 with _|⟨e,p2⟩
  ·simp only [zr] at h3;subst h3;unfold Ti;simp only [gY] at h4;refine Ud hw ?_
   (refine ⟨(pre++[d],rest,IntKind.wrap .i64 (a+d.ek)),?_,⟨?_,?_⟩,?_⟩;(focus (first|(simp;done)|(simp_all;done)));(focus (simp;done));(focus (refine zp ?_ h2;clear h2;rw [if_pos ⟨hr,hd,h4.symm⟩]));(focus (simp;done)))
  ·unfold Ti;simp only [gY] at h4;subst h3;simp only [zb,za] at h hw;have hv:=Wi ((p1.length:Int)+1);have hn:((p1.length:Int)+((p2.length:Int)+1)).toNat=p1.length+(p2.length+1):=by omega
   have hx4:(zh aL.e p1++[di e.dW,di e.fW,di e.Kind,di e.iz,di e.ek]::(zh aL.e p2++[di d.dW,di d.fW,di d.Kind,di d.iz,di d.ek]::zh aL.e rest))[p1.length+(p2.length+1)]?=some [di d.dW,di d.fW,di d.Kind,di d.iz,di d.ek]:=by
    rw [List.getElem?_append_right (by simp),z_,Nat.add_sub_cancel_left,List.getElem?_cons_succ];exact afe _ _ _ (by simp)
   refine Ud (J3 hv hn hx4) ?_ ?_;all_goals repeat intro hc
   ·have h5:gY d.dW (p1++e::p2)=true:=by simp_all
    have h6:pn [] 0 (p1++e::p2++d::rest)=false:=by rw [←h2,if_neg (by simp [h5])]
    simp [B8,lZ];simpa using fun _ _=>h6
   ·refine ⟨(p1++[e],p2),?_,⟨?_,?_⟩,?_⟩
    ·first|(simp;done)|(simp_all;done)
    ·simp
    ·refine zp ?_ h4;simp [*]
    ·simp
@[simp] theorem t271 (h:ao.length≤1048576):Gw TT 271 [.st [ri ef,rl k0 5 (ao.map aL.e)]]=some (vb (lZ ef ao),[]):=alX k0 ef ao (by omega)
def cU (a b:ab):Bool:=a.Ty==b.Ty&&(a.N==b.N&&a.S.toList==b.S.toList)
def DH (a b:Int):Bool:=a==b
def sx:List (ab×ab)→Bool
 |[]=>true
 |d::z=>if cU d.1 d.2=true then sx z else false
def ry (l m:List ab):Bool:=if l.length=m.length then sx (l.zip m) else false
def rj:List (Int×Int)→Bool
 |[]=>true
 |d::z=>if DH d.1 d.2=true then rj z else false
def wG (l m:List Int):Bool:=if l.length=m.length then rj (l.zip m) else false
theorem al0 (z:List (ab×ab)) (h:z.length≤1048576):Gw TT 404 [.one (rl k0 3 (z.map (ab.e∘zu))),.one (rl k1 3 (z.map (ab.e∘zw)))]=some (vb (sx z),[]):=by
 refine Ga Ca DZ ?_;unfold DZ;refine Ud Oo ?_;refine ba (σ:=List (ab×ab)×List (ab×ab)) (fun s=>[(0,AV.v k0 (D.sl 3 (z.map (ab.e∘zu))),none),(1,AV.v k1 (D.sl 3 (z.map (ab.e∘zw))),none),(12,vn (z.length:Nat),none),(13,vn ((s.1.length:Nat):Int),none)]) (fun s=>z=s.1++s.2∧sx s.2=sx z) (fun s=>s.2.length) ([],z) (by simp) ⟨rfl,rfl⟩ ?_;rintro ⟨pre,rest⟩ ⟨h1,h2⟩;simp only at h1 h2;subst h1;simp only [zb,za] at h;rcases rest with _|⟨d,rest⟩
 ·unfold Tw;simp only [sx,cU,ze,beq_iff_eq] at h2;refine Ud Oo ?_;simp_all [Ca]
 ·unfold Tw;simp only [za] at h;simp only [sx,cU,ze,beq_iff_eq] at h2;have hw:=Wi ((pre.length:Int)+1);refine Ud hw ?_ ?_;all_goals repeat intro hc
  all_goals first|(refine ⟨(pre++[d],rest),?_,⟨?_,?_⟩,?_⟩;(focus (first|(simp;done)|(simp_all;done)));(focus (simp;done));(focus (refine zp ?_ h2;clear h2;first|(simp [*];done)|(simp_all;done)|(split<;>simp_all<;>omega)|(split<;>first|(exfalso;omega)|(simp_all;done))));(focus (simp;done)))|(split at h2<;>first|(exfalso;omega)|(simp_all [Ca];done))
@[simp] theorem arI (l m:List ab) (h:l.length≤1048576) (h1:m.length≤1048576):Gw TT 404 [.one (rl k0 3 (l.map ab.e)),.one (rl k1 3 (m.map ab.e))]=some (vb (ry l m),[]):=by
 by_cases hl:l.length=m.length
 ·obtain ⟨z,rfl,rfl⟩:=x9 l m hl;have:=al0 k0 k1 z (by simpa using h);simp only [ry,hl,if_true,zip_map,zT];exact this
 ·refine oD (F:=Ca) rfl rfl ?_;show Wp _ DZ _ _;unfold DZ;refine Uw Oo ?_;repeat intro hc
  simp_all [Ca,ry]
@[simp] theorem t52 (l m:List ab) (h:l.length≤1048576) (h1:m.length≤1048576):Gw TT 52 [.one (rl k0 3 (l.map ab.e)),.one (rl k1 3 (m.map ab.e))]=some (vb (ry l m),[]):=by
 refine Ga So PA ?_;unfold PA;refine Ua (J2 h h1) ?_;simp_all [So]
theorem alY (z:List (ab×ab)) (h:z.length≤1048576):Gw TT 333 [.one (rl k0 3 (z.map (ab.e∘zu))),.one (rl k1 3 (z.map (ab.e∘zw)))]=some (vb (sx z),[]):=by
 refine Ga B_ DX ?_;unfold DX;refine Ud Oo ?_;refine ba (σ:=List (ab×ab)×List (ab×ab)) (fun s=>[(0,AV.v k0 (D.sl 3 (z.map (ab.e∘zu))),none),(1,AV.v k1 (D.sl 3 (z.map (ab.e∘zw))),none),(5,vn ((s.1.length:Nat):Int),none)]) (fun s=>z=s.1++s.2∧sx s.2=sx z) (fun s=>s.2.length) ([],z) (by simp) ⟨rfl,rfl⟩ ?_;rintro ⟨pre,rest⟩ ⟨h1,h2⟩;simp only at h1 h2;subst h1;simp only [zb,za] at h;rcases rest with _|⟨d,rest⟩
 ·unfold Tn;simp only [sx,cU,ze,beq_iff_eq] at h2;refine Ud Oo ?_;simp_all [B_]
 ·unfold Tn;simp only [za] at h;simp only [sx,cU,ze,beq_iff_eq] at h2;have hw:=Wi ((pre.length:Int)+1);refine Ud hw ?_ ?_;all_goals repeat intro hc
  all_goals first|(refine ⟨(pre++[d],rest),?_,⟨?_,?_⟩,?_⟩;(focus (first|(simp;done)|(simp_all;done)));(focus (simp;done));(focus (refine zp ?_ h2;clear h2;first|(simp [*];done)|(simp_all;done)|(split<;>simp_all<;>omega)|(split<;>first|(exfalso;omega)|(simp_all;done))));(focus (simp;done)))|(split at h2<;>first|(exfalso;omega)|(simp_all [B_];done))
@[simp] theorem t333 (l m:List ab) (h:l.length≤1048576) (h1:m.length≤1048576):Gw TT 333 [.one (rl k0 3 (l.map ab.e)),.one (rl k1 3 (m.map ab.e))]=some (vb (ry l m),[]):=by
 by_cases hl:l.length=m.length
 ·obtain ⟨z,rfl,rfl⟩:=x9 l m hl;have:=alY k0 k1 z (by simpa using h);simp only [ry,hl,if_true,zip_map,zT];exact this
 ·refine oD (F:=B_) rfl rfl ?_;show Wp _ DX _ _;unfold DX;refine Uw Oo ?_;repeat intro hc
  simp_all [B_,ry]
theorem amH (z:List (Int×Int)) (h:z.length≤1048576):Gw TT 84 [.one (rl k0 1 (z.map (ei∘zu))),.one (rl k1 1 (z.map (ei∘zw)))]=some (vb (rj z),[]):=by
 refine Ga Cm D3 ?_;unfold D3;refine Ud Oo ?_;refine ba (σ:=List (Int×Int)×List (Int×Int)) (fun s=>[(0,AV.v k0 (D.sl 1 (z.map (ei∘zu))),none),(1,AV.v k1 (D.sl 1 (z.map (ei∘zw))),none),(12,vn (z.length:Nat),none),(13,vn ((s.1.length:Nat):Int),none)]) (fun s=>z=s.1++s.2∧rj s.2=rj z) (fun s=>s.2.length) ([],z) (by simp) ⟨rfl,rfl⟩ ?_;rintro ⟨pre,rest⟩ ⟨h1,h2⟩;simp only at h1 h2;subst h1;simp only [zb,za] at h;rcases rest with _|⟨d,rest⟩
 ·unfold Uo;simp only [rj,DH,ze,beq_iff_eq] at h2;refine Ud Oo ?_;simp_all [Cm]
 ·unfold Uo;simp only [za] at h;simp only [rj,DH,ze,beq_iff_eq] at h2;have hw:=Wi ((pre.length:Int)+1);refine Ud hw ?_ ?_;all_goals repeat intro hc
  all_goals first|(refine ⟨(pre++[d],rest),?_,⟨?_,?_⟩,?_⟩;(focus (first|(simp;done)|(simp_all;done)));(focus (simp;done));(focus (refine zp ?_ h2;clear h2;first|(simp [*];done)|(simp_all;done)|(split<;>simp_all<;>omega)|(split<;>first|(exfalso;omega)|(simp_all;done))));(focus (simp;done)))|(simp_all [Cm];done)
@[simp] theorem t84 (l m:List Int) (h:l.length≤1048576) (h1:m.length≤1048576):Gw TT 84 [.one (rl k0 1 (l.map ei)),.one (rl k1 1 (m.map ei))]=some (vb (wG l m),[]):=by
 by_cases hl:l.length=m.length
 ·obtain ⟨z,rfl,rfl⟩:=x9 l m hl;have:=amH k0 k1 z (by simpa using h);simp only [wG,hl,if_true,zip_map,zT];exact this
 ·refine oD (F:=Cm) rfl rfl ?_;show Wp _ D3 _ _;unfold D3;refine Uw Oo ?_;repeat intro hc
  simp_all [Cm,wG]
theorem alZ (z:List (Int×Int)) (h:z.length≤1048576):Gw TT 390 [.one (rl k0 1 (z.map (ei∘zu))),.one (rl k1 1 (z.map (ei∘zw)))]=some (vb (rj z),[]):=by
 refine Ga B' DY ?_;unfold DY;refine Ud Oo ?_;refine ba (σ:=List (Int×Int)×List (Int×Int)) (fun s=>[(0,AV.v k0 (D.sl 1 (z.map (ei∘zu))),none),(1,AV.v k1 (D.sl 1 (z.map (ei∘zw))),none),(5,vn ((s.1.length:Nat):Int),none)]) (fun s=>z=s.1++s.2∧rj s.2=rj z) (fun s=>s.2.length) ([],z) (by simp) ⟨rfl,rfl⟩ ?_;rintro ⟨pre,rest⟩ ⟨h1,h2⟩;simp only at h1 h2;subst h1;simp only [zb,za] at h;rcases rest with _|⟨d,rest⟩
 ·unfold Tu;simp only [rj,DH,ze,beq_iff_eq] at h2;refine Ud Oo ?_;simp_all [B']
 ·unfold Tu;simp only [za] at h;simp only [rj,DH,ze,beq_iff_eq] at h2;have hw:=Wi ((pre.length:Int)+1);refine Ud hw ?_ ?_;all_goals repeat intro hc
  all_goals first|(refine ⟨(pre++[d],rest),?_,⟨?_,?_⟩,?_⟩;(focus (first|(simp;done)|(simp_all;done)));(focus (simp;done));(focus (refine zp ?_ h2;clear h2;first|(simp [*];done)|(simp_all;done)|(split<;>simp_all<;>omega)|(split<;>first|(exfalso;omega)|(simp_all;done))));(focus (simp;done)))|(simp_all [B'];done)
@[simp] theorem arE (l m:List Int) (h:l.length≤1048576) (h1:m.length≤1048576):Gw TT 390 [.one (rl k0 1 (l.map ei)),.one (rl k1 1 (m.map ei))]=some (vb (wG l m),[]):=by
 by_cases hl:l.length=m.length
 ·obtain ⟨z,rfl,rfl⟩:=x9 l m hl;have:=alZ k0 k1 z (by simpa using h);simp only [wG,hl,if_true,zip_map,zT];exact this
 ·refine oD (F:=B') rfl rfl ?_;show Wp _ DY _ _;unfold DY;refine Uw Oo ?_;repeat intro hc
  simp_all [B',wG]
def akZ (a b:aA):Bool:=a.Id==b.Id&&ry a.L b.L
def acw:List (aA×aA)→Bool
 |[]=>true
 |d::z=>if akZ d.1 d.2=true then acw z else false
def alf (l m:List aA):Bool:=if l.length=m.length then acw (l.zip m) else false
mutual
def ov:an→an→Bool
 |⟨k,c,o,v,l⟩,⟨k',c',o',v',l'⟩=>k==k'&&(c==c'&&(o==o'&&(cU v v'&&o9 l l')))
def o9:List an→List an→Bool
 |[],[]=>true
 |x::l,y::m=>ov x y&&o9 l m
 |_,_=>false
end
theorem Uv:∀(l m:List an),l.length≠m.length→o9 l m=false
 |[],[],h=>absurd rfl h
 |[],_::_,_=>by simp [o9]
 |_::_,[],_=>by simp [o9]
 |x::l,y::m,h=>by simp [o9,Uv l m (by simpa using h)]
def I0 (x y:an):Prop:=∀k0 k1:Bool,x.sm→y.sm→Gw TT 85 [.st [.ro false (di x.Kind),.ro false (di x.hZ),.ro false (di x.Op),.ro false (di x.V.Ty),.ro false (di x.V.N),.ro false (.str x.V.S),.ro k0 (.sl 7 (x.L.map an.e))],.st [.ro false (di y.Kind),.ro false (di y.hZ),.ro false (di y.Op),.ro false (di y.V.Ty),.ro false (di y.V.N),.ro false (.str y.V.S),.ro k1 (.sl 7 (y.L.map an.e))]]=some (vb (ov x y),[])
theorem adO (x y:an) (IH:∀a∈x.L,∀b∈y.L,I0 a b):I0 x y:=by
 intro k0 k1 hx hy;obtain ⟨cd,cH,cG,⟨dG,dF,cV⟩,ao⟩:=x;obtain ⟨cO,eY,ch,⟨fF,fE,eZ⟩,a_⟩:=y;simp only [an.iJ,ab.sm,and_assoc] at hx hy;obtain ⟨_,iF,n9⟩:=hx;obtain ⟨_,n_,vX⟩:=hy;refine Ga Ey Q9 ?_;unfold Q9;by_cases hh:cd=cO∧cH=eY∧cG=ch∧dG=fF∧dF=fE∧cV.toList=eZ.toList∧ao.length=a_.length
 ·obtain ⟨rfl,rfl,rfl,rfl,rfl,hs,hl⟩:=hh;obtain ⟨z,rfl,rfl⟩:=x9 ao a_ hl;simp only at IH;simp only [z_] at iF hl;clear n_ hl;refine Ud hs ?_;repeat intro hc
  refine ba (σ:=List (an×an)×List (an×an)) (fun s=>[(2,AV.bx 2 0,some (Rt.bx [ri cd,ri cH,ri cG,ri dG,ri dF,.ro false (.str cV),rl k0 7 (z.map (an.e∘zu))])),(3,AV.bx 3 0,some (Rt.bx [ri cd,ri cH,ri cG,ri dG,ri dF,.ro false (.str eZ),rl k1 7 (z.map (an.e∘zw))])),(43,vn (z.length:Nat),none),(44,vn ((s.1.length:Nat):Int),none)]) (fun s=>z=s.1++s.2∧o9 (s.2.map zu) (s.2.map zw)=o9 (z.map zu) (z.map zw)) (fun s=>s.2.length) ([],z) (by simp) ⟨rfl,rfl⟩ ?_;rintro ⟨pre,rest⟩ ⟨h1,h2⟩;simp only at h1 h2;subst h1;simp only [zb,za] at iF;rcases rest with _|⟨d,rest⟩
  ·unfold Uq;simp only [o9,Zq] at h2;refine Ud Oo ?_;repeat intro hc
   all_goals simp_all [Ey,ov,cU]
  ·unfold Uq;simp only [za] at iF;simp only [o9,Zn] at h2;have hw:=Wi ((pre.length:Int)+1);have ih:=IH d.1 (by simp) d.2 (by simp) k0 k1 (an.su n9 d.1 (by simp)) (an.su vX d.2 (by simp));refine Ud (J2 hw ih) ?_ ?_;all_goals repeat intro hc
   all_goals first|(refine ⟨(pre++[d],rest),?_,⟨?_,?_⟩,?_⟩;(focus (first|(simp;done)|(simp_all;done)));(focus (simp;done));(focus (refine zp ?_ h2;clear h2;simp_all;done));(focus (simp;done)))|(simp_all [Ey,ov,cU];done)
 ·have hf:ov ⟨cd,cH,cG,⟨dG,dF,cV⟩,ao⟩ ⟨cO,eY,ch,⟨fF,fE,eZ⟩,a_⟩=false:=by
   by_cases hl:ao.length=a_.length
   ·simp only [ov,cU];rw [Zg];intro hq;simp only [ze,beq_iff_eq] at hq;exact hh ⟨hq.1,hq.2.1,hq.2.2.1,hq.2.2.2.1.1,hq.2.2.2.1.2.1,hq.2.2.2.1.2.2,hl⟩
   ·simp [ov,Uv _ _ hl]
  repeat' first|refine Zs ?_|((with_reducible refine Xk fun K k=>?_);simp;(repeat' (with_reducible first|refine k _ ?_|(refine fq ?_ ?_<;>(intro hc;(try rw [zd] at hc);first|(exfalso;omega)|(try simp [hc])))));all_goals clear k K)|(refine We rfl ?_ ?_<;>intro hc<;>(try simp at hc)<;>first|(exfalso;omega)|skip)
  all_goals first|(simp [Ey,hf];done)|(exfalso;have q:¬(¬dG=fF∨¬dF=fE∨¬cV.toList=eZ.toList):=(by assumption);exact hh ⟨by assumption,by assumption,by assumption,zx fun e=>q (.inl e),zx fun e=>q (.inr (.inl e)),zx fun e=>q (.inr (.inr e)),by omega⟩)
theorem Vp (x y:an):I0 x y:=
 adO x y fun a ha b _=>Vp a b
termination_by zo x
decreasing_by
 have h1:=zB ha;have h2:zo x.L<zo x:=by cases x;simp;omega
 omega
@[simp] theorem t85 (ao:List an) (cO eY:Int) (ch fF fE:Int) (eZ:ByteArray) (a_:List an) (hv:cV.size≤1048576) (iF:ao.length≤1048576) (n9:an.aJ ao) (hw:eZ.size≤1048576) (n_:a_.length≤1048576) (vX:an.aJ a_):
 Gw TT 85 [.st (rG k0 cd cH cG dG dF cV ao),.st (rG k1 cO eY ch fF fE eZ a_)]=some (vb (ov ⟨cd,cH,cG,⟨dG,dF,cV⟩,ao⟩ ⟨cO,eY,ch,⟨fF,fE,eZ⟩,a_⟩),[]):=
 Vp ⟨cd,cH,cG,⟨dG,dF,cV⟩,ao⟩ ⟨cO,eY,ch,⟨fF,fE,eZ⟩,a_⟩ k0 k1 (by simp only [an.iJ,ab.sm];exact ⟨hv,iF,n9⟩) (by simp only [an.iJ,ab.sm];exact ⟨hw,n_,vX⟩)
def I1 (x y:an):Prop:=∀k0 k1:Bool,x.sm→y.sm→Gw TT 391 [.st [.ro false (di x.Kind),.ro false (di x.hZ),.ro false (di x.Op),.ro false (di x.V.Ty),.ro false (di x.V.N),.ro false (.str x.V.S),.ro k0 (.sl 7 (x.L.map an.e))],.st [.ro false (di y.Kind),.ro false (di y.hZ),.ro false (di y.Op),.ro false (di y.V.Ty),.ro false (di y.V.N),.ro false (.str y.V.S),.ro k1 (.sl 7 (y.L.map an.e))]]=some (vb (ov x y),[])
theorem adP (x y:an) (IH:∀a∈x.L,∀b∈y.L,I1 a b):I1 x y:=by
 intro k0 k1 hx hy;obtain ⟨cd,cH,cG,⟨dG,dF,cV⟩,ao⟩:=x;obtain ⟨cO,eY,ch,⟨fF,fE,eZ⟩,a_⟩:=y;simp only [an.iJ,ab.sm,and_assoc] at hx hy;obtain ⟨_,iF,n9⟩:=hx;obtain ⟨_,n_,vX⟩:=hy;refine Ga Ee OF ?_;unfold OF;by_cases hh:cd=cO∧cH=eY∧cG=ch∧dG=fF∧dF=fE∧cV.toList=eZ.toList∧ao.length=a_.length
 ·obtain ⟨rfl,rfl,rfl,rfl,rfl,hs,hl⟩:=hh;obtain ⟨z,rfl,rfl⟩:=x9 ao a_ hl;simp only at IH;simp only [z_] at iF hl;clear n_ hl;refine Ud hs ?_;repeat intro hc
  refine ba (σ:=List (an×an)×List (an×an)) (fun s=>[(2,AV.bx 2 0,some (Rt.bx [ri cd,ri cH,ri cG,ri dG,ri dF,.ro false (.str cV),rl k0 7 (z.map (an.e∘zu))])),(3,AV.bx 3 0,some (Rt.bx [ri cd,ri cH,ri cG,ri dG,ri dF,.ro false (.str eZ),rl k1 7 (z.map (an.e∘zw))])),(5,vn ((s.1.length:Nat):Int),none)]) (fun s=>z=s.1++s.2∧o9 (s.2.map zu) (s.2.map zw)=o9 (z.map zu) (z.map zw)) (fun s=>s.2.length) ([],z) (by simp) ⟨rfl,rfl⟩ ?_;rintro ⟨pre,rest⟩ ⟨h1,h2⟩;simp only at h1 h2;subst h1;simp only [zb,za] at iF;rcases rest with _|⟨d,rest⟩
  ·unfold Tv;simp only [o9,Zq] at h2;refine Ud Oo ?_;repeat intro hc
   all_goals simp_all [Ee,ov,cU]
  ·unfold Tv;simp only [za] at iF;simp only [o9,Zn] at h2;have hw:=Wi ((pre.length:Int)+1);have ih:=IH d.1 (by simp) d.2 (by simp) k0 k1 (an.su n9 d.1 (by simp)) (an.su vX d.2 (by simp));refine Ud (J2 hw ih) ?_ ?_;all_goals repeat intro hc
   all_goals first|(refine ⟨(pre++[d],rest),?_,⟨?_,?_⟩,?_⟩;(focus (first|(simp;done)|(simp_all;done)));(focus (simp;done));(focus (refine zp ?_ h2;clear h2;simp_all;done));(focus (simp;done)))|(simp_all [Ee,ov,cU];done)
 ·have hf:ov ⟨cd,cH,cG,⟨dG,dF,cV⟩,ao⟩ ⟨cO,eY,ch,⟨fF,fE,eZ⟩,a_⟩=false:=by
   by_cases hl:ao.length=a_.length
   ·simp only [ov,cU];rw [Zg];intro hq;simp only [ze,beq_iff_eq] at hq;exact hh ⟨hq.1,hq.2.1,hq.2.2.1,hq.2.2.2.1.1,hq.2.2.2.1.2.1,hq.2.2.2.1.2.2,hl⟩
   ·simp [ov,Uv _ _ hl]
  repeat' first|refine Zs ?_|((with_reducible refine Xk fun K k=>?_);simp;(repeat' (with_reducible first|refine k _ ?_|(refine fq ?_ ?_<;>(intro hc;(try rw [zd] at hc);first|(exfalso;omega)|(try simp [hc])))));all_goals clear k K)|(refine We rfl ?_ ?_<;>intro hc<;>(try simp at hc)<;>first|(exfalso;omega)|skip)
  all_goals first|(simp [Ee,hf];done)|(exfalso;have q:¬(¬dG=fF∨¬dF=fE∨¬cV.toList=eZ.toList):=(by assumption);exact hh ⟨by assumption,by assumption,by assumption,zx fun e=>q (.inl e),zx fun e=>q (.inr (.inl e)),zx fun e=>q (.inr (.inr e)),by omega⟩)
theorem Vq (x y:an):I1 x y:=
 adP x y fun a ha b _=>Vq a b
termination_by zo x
decreasing_by
 have h1:=zB ha;have h2:zo x.L<zo x:=by cases x;simp;omega
 omega
@[simp] theorem arF (ao:List an) (cO eY:Int) (ch fF fE:Int) (eZ:ByteArray) (a_:List an) (hv:cV.size≤1048576) (iF:ao.length≤1048576) (n9:an.aJ ao) (hw:eZ.size≤1048576) (n_:a_.length≤1048576) (vX:an.aJ a_):
 Gw TT 391 [.st (rG k0 cd cH cG dG dF cV ao),.st (rG k1 cO eY ch fF fE eZ a_)]=some (vb (ov ⟨cd,cH,cG,⟨dG,dF,cV⟩,ao⟩ ⟨cO,eY,ch,⟨fF,fE,eZ⟩,a_⟩),[]):=
 Vq ⟨cd,cH,cG,⟨dG,dF,cV⟩,ao⟩ ⟨cO,eY,ch,⟨fF,fE,eZ⟩,a_⟩ k0 k1 (by simp only [an.iJ,ab.sm];exact ⟨hv,iF,n9⟩) (by simp only [an.iJ,ab.sm];exact ⟨hw,n_,vX⟩)
def uY (a b:ia):Bool:=a.Kind==b.Kind&&ov a.P b.P&&a.hZ==b.hZ&&wG a.Out b.Out
def akW (a b:mD):Bool:=alf a.Rows b.Rows&&a.N==b.N&&a.Has==b.Has&&cU a.V b.V
def aoD (a b:ca):Bool:=a.Op==b.Op&&a.Task==b.Task&&ry a.R b.R&&a.Id==b.Id&&uY a.Q b.Q&&akW a.uA b.uA&&a.Code==b.Code&&a.Bp==b.Bp&&a.Inv==b.Inv&&a.yb==b.yb&&a.wV==b.wV
@[simp] theorem t86 (EV EU:Int) (EW EY EX:Int) (Bl:ByteArray) (wR:List an) (eY:Int) (Bk:List Int) (yX:ke.size≤1048576) (yW:ik.length≤1048576) (y9:an.aJ ik) (yV:j_.length≤1048576) (L6:Bl.size≤1048576) (L5:wR.length≤1048576) (Me:an.aJ wR) (L4:Bk.length≤1048576):Gw TT 86 [.st (rF k0 cd nG nF nH nJ nI ke ik cH j_),.st (rF k1 cO EV EU EW EY EX Bl wR eY Bk)]=some (vb (uY ⟨cd,⟨nG,nF,nH,⟨nJ,nI,ke⟩,ik⟩,cH,j_⟩ ⟨cO,⟨EV,EU,EW,⟨EY,EX,Bl⟩,wR⟩,eY,Bk⟩),[]):=by
 refine Ga SF Q_ ?_;unfold Q_;refine Ud (J8 yX yW y9 yV L6 L5 Me L4) ?_ ?_ ?_ ?_;all_goals repeat intro hc
 all_goals simp_all [SF,uY]
@[simp] theorem arG (EV EU:Int) (EW EY EX:Int) (Bl:ByteArray) (wR:List an) (eY:Int) (Bk:List Int) (yX:ke.size≤1048576) (yW:ik.length≤1048576) (y9:an.aJ ik) (yV:j_.length≤1048576) (L6:Bl.size≤1048576) (L5:wR.length≤1048576) (Me:an.aJ wR) (L4:Bk.length≤1048576):Gw TT 392 [.st (rF k0 cd nG nF nH nJ nI ke ik cH j_),.st (rF k1 cO EV EU EW EY EX Bl wR eY Bk)]=some (vb (uY ⟨cd,⟨nG,nF,nH,⟨nJ,nI,ke⟩,ik⟩,cH,j_⟩ ⟨cO,⟨EV,EU,EW,⟨EY,EX,Bl⟩,wR⟩,eY,Bk⟩),[]):=by
 refine Ga Sg OG ?_;unfold OG;refine Ud (J8 yX yW y9 yV L6 L5 Me L4) ?_ ?_ ?_ ?_;all_goals repeat intro hc
 all_goals simp_all [Sg,uY]
def UK (a b:bp):Bool:=a.rC==b.rC&&ry a.L b.L
def xO:List (bp×bp)→Bool
 |[]=>true
 |d::z=>if UK d.1 d.2=true then xO z else false
def Ba (l m:List bp):Bool:=if l.length=m.length then xO (l.zip m) else false
def aoA (a b:mC):Bool:=a.Next==b.Next&&Ba a.L b.L
theorem amG (z:List (bp×bp)) (h:z.length≤1048576) (hs:bp.aJ (z.map zu)) (LQ:bp.aJ (z.map zw)):Gw TT 83 [.st [ri eu,rl k0 2 (z.map (bp.e∘zu))],.st [ri eu,rl k1 2 (z.map (bp.e∘zw))]]=some (vb (xO z),[]):=by
 refine Ga Cl D2 ?_;unfold D2;refine Ud Oo ?_;refine ba (σ:=List (bp×bp)×List (bp×bp)) (fun s=>[(2,AV.bx 2 0,some (Rt.bx [ri eu,rl k0 2 (z.map (bp.e∘zu))])),(3,AV.bx 3 0,some (Rt.bx [ri eu,rl k1 2 (z.map (bp.e∘zw))])),(22,vn (z.length:Nat),none),(23,vn ((s.1.length:Nat):Int),none)]) (fun s=>z=s.1++s.2∧xO s.2=xO z) (fun s=>s.2.length) ([],z) (by simp) ⟨rfl,rfl⟩ ?_;rintro ⟨pre,rest⟩ ⟨h1,h2⟩;simp only at h1 h2;subst h1;simp only [zb,za] at h;rcases rest with _|⟨d,rest⟩
 ·unfold Un;simp only [xO,UK,ze,beq_iff_eq] at h2;refine Ud Oo ?_;simp_all [Cl]
 ·unfold Un;simp only [za] at h;simp only [xO,UK,ze,beq_iff_eq] at h2;have hw:=Wi ((pre.length:Int)+1);have fj:=hs d.1 (by simp);have ck:=LQ d.2 (by simp);simp only [bp.sm] at fj ck;obtain ⟨pB,uI⟩:=fj;obtain ⟨iV,lv⟩:=ck;refine Ud (J3 hw pB iV) ?_ ?_ ?_;all_goals repeat intro hc
  all_goals first|(refine ⟨(pre++[d],rest),?_,⟨?_,?_⟩,?_⟩;(focus (first|(simp;done)|(simp_all;done)));(focus (simp;done));(focus (refine zp ?_ h2;clear h2;first|(simp [*];done)|(simp_all;done)|(split<;>simp_all<;>omega)|(split<;>first|(exfalso;omega)|(simp_all;done))));(focus (simp;done)))|(simp_all [Cl];done)
@[simp] theorem t83 (eu Vc:Int) (ao a_:List bp) (h:ao.length≤1048576) (hs:bp.aJ ao) (h1:a_.length≤1048576) (LQ:bp.aJ a_):Gw TT 83 [.st [ri eu,rl k0 2 (ao.map bp.e)],.st [ri Vc,rl k1 2 (a_.map bp.e)]]=some (vb (eu==Vc&&Ba ao a_),[]):=by
 by_cases hl:eu=Vc∧ao.length=a_.length
 ·obtain ⟨rfl,hl⟩:=hl;obtain ⟨z,rfl,rfl⟩:=x9 ao a_ hl;have:=amG k0 k1 eu z (by simpa using h) hs LQ;simp only [Ba,hl,if_true,zip_map,zT,BEq.rfl,Bool.true_and];exact this
 ·refine oD (F:=Cl) rfl rfl ?_;show Wp _ D2 _ _;unfold D2;refine Ud Oo ?_ ?_;all_goals repeat intro hc
  all_goals simp_all [Cl,Ba]
def strOf (l:List Int):ByteArray:=⟨(l.map fun n=>zM n.toNat).toArray⟩
@[simp] theorem V1 (l:List Int):sT (l.map eb)=some (l.map fun n=>zM n.toNat):=by
 induction l with
 |nil=>rfl
 |cons n l ih=>
  have:sT (zh eb (n::l))=match sT (l.map eb) with
   |some bs=>some (zM n.toNat::bs)
   |none=>none:=rfl
  rw [this,ih];try rfl
@[simp] theorem t1 (l m:List Int):Gw TT 1 [.one (rl k0 1 (l.map eb)),.one (rl k1 1 (m.map eb))]=some (vb ((strOf l).toList==(strOf m).toList),[]):=by
 refine Ga Rb MP ?_;unfold MP;refine Ua Oo ?_;simp_all [Rb,strOf]
@[simp] theorem arH (l m:List Int):Gw TT 402 [.one (rl k0 1 (l.map eb)),.one (rl k1 1 (m.map eb))]=some (vb ((strOf l).toList==(strOf m).toList),[]):=by
 refine Ga Sh OH ?_;unfold OH;refine Ua Oo ?_;simp_all [Sh,strOf]
def wh (k op:Int):Bool:=decide (op=0∨(k<3∧1≤op∧op≤3)∨(3≤k∧op=4))
@[simp] theorem t81 (k op:Int):Gw TT 81 [vi k,vi op]=some (vb (wh k op),[]):=by
 refine Ga Ex Q7 ?_;unfold Q7;refine Ud Oo ?_ ?_ ?_;all_goals repeat intro hc
 all_goals first|(simp_all [Ex,wh];done)|(simp_all [Ex,wh];omega)|(simp [Ex,wh];rw [zF];simp;omega)
def qC (kind pk pc po ty n:Int) (s:ByteArray) (l:List an) (Fl:Int) (out:List Int):Bool:=
 decide (kind=0∧Fl=0∧out.length=0∧pk=0∧pc=0∧po=0∧ty=0∧n=0∧l.length=0)&&(s.toList==(⟨#[]⟩:ByteArray).toList)
theorem akL (kind pk pc po ty n:Int) (s:ByteArray) (l:List an) (Fl:Int) (out:List Int):
 uY ⟨kind,⟨pk,pc,po,⟨ty,n,s⟩,l⟩,Fl,out⟩ ⟨0,⟨0,0,0,⟨0,0,⟨#[]⟩⟩,[]⟩,0,[]⟩=qC kind pk pc po ty n s l Fl out:=by
 have h1:o9 l []=decide (l.length=0):=by cases l<;>simp [o9]
 have h2:wG out []=decide (out.length=0):=by cases out<;>simp [wG,rj]
 rw [zF];simp only [uY,qC,ov,cU,h1,h2,ze,beq_iff_eq,decide_eq_true_eq];constructor
 ·rintro ⟨⟨⟨a,b,c,d,⟨e,f,g⟩,i⟩,j⟩,m⟩;exact ⟨⟨a,j,m,b,c,d,e,f,i⟩,g⟩
 ·rintro ⟨⟨a,j,m,b,c,d,e,f,i⟩,g⟩;exact ⟨⟨⟨a,b,c,d,⟨e,f,g⟩,i⟩,j⟩,m⟩
@[simp] theorem asJ (yX:ke.size≤1048576) (yW:ik.length≤1048576) (y9:an.aJ ik) (yV:j_.length≤1048576):Gw TT 86 [.st (rF k0 cd nG nF nH nJ nI ke ik cH j_),.st [ri 0,ri 0,ri 0,ri 0,ri 0,ri 0,.ro false (.str ⟨#[]⟩),rl k1 7 [],ri 0,rl k1 1 []]]=some (vb (qC cd nG nF nH nJ nI ke ik cH j_),[]):=by
 rw [←akL];have e:(⟨#[]⟩:ByteArray).size≤1048576:=by decide
 exact t86 k0 k1 cd nG nF nH nJ nI ke ik cH j_ 0 0 0 0 0 0 ⟨#[]⟩ [] 0 [] yX yW y9 yV e (by simp) (by simp [an.aJ]) (by simp)
@[simp] theorem arB:Gw TT 374 [.st (rF k0 cd nG nF nH nJ nI ke ik cH j_)]=some (vb (qC cd nG nF nH nJ nI ke ik cH j_),[]):=by
 refine Ga GN OB ?_;unfold OB
 repeat' first|refine Zs ?_|((with_reducible refine Xk fun K k=>?_);simp;(repeat' (with_reducible first|refine k _ ?_|(refine fq ?_ ?_<;>(intro hc;(try rw [zd] at hc);first|(exfalso;omega)|(try simp [hc])))));all_goals clear k K)|(refine We rfl ?_ ?_<;>intro hc<;>(try simp at hc)<;>first|(exfalso;omega)|skip)
 all_goals first|(simp_all [GN,qC];done)|(simp_all [GN,qC];rw [zF];simp;done)
def pj (pc h:Int) (r:List ab) (id:Int) (q:Bool) (ts U':Int) (l:List aL) (i j s Jf own:Int) (won:Bool) (got:List aA):Bool:=
 decide (pc=0∧h=0∧r.length=0∧id=0)&&q&&decide (ts=0∧U'=0∧l.length=0∧i=0∧j=0∧s=0∧Jf=0∧own=0)&&!won&&decide (got.length=0)
@[simp] theorem t67 (bJ fP ij:Int) (jw:Bool) (fm:List aA) (nq:dU.length≤1048576) (nt:ab.aJ dU) (np:fD.size≤1048576) (nm:dQ.length≤1048576) (nr:an.aJ dQ) (nk:fC.length≤1048576) (gM:ao.length≤1048576) (oS:fm.length≤1048576) (oT:aA.aJ fm):Gw TT 67 [.st (kr k0 cG jl jO dU fB iN iP iO iQ iS iR fD dQ iM fC jR ef ao jP jQ bJ fP ij jw fm)]=some (vb (pj jl jO dU fB (qC iN iP iO iQ iS iR fD dQ iM fC) jR ef ao jP jQ bJ fP ij jw fm),[]):=by
 refine Ga Hx Q0 ?_;unfold Q0
 repeat' first|refine Zs ?_|((with_reducible refine Xk fun K k=>?_);simp [nq,nt,np,nm,nr,nk,gM,oS,oT];(repeat' (with_reducible first|refine k _ ?_|(refine fq ?_ ?_<;>(intro hc;(try rw [zd] at hc);first|(exfalso;omega)|(try simp [hc,nq,nt,np,nm,nr,nk,gM,oS,oT])))));all_goals clear k K)|(refine We rfl ?_ ?_<;>intro hc<;>(try simp at hc)<;>first|(exfalso;omega)|skip)
 all_goals first|(simp_all [Hx,pj];done)|(simp_all [Hx,pj];rw [zF];simp;done)
@[simp] theorem arA (bJ fP ij:Int) (jw:Bool) (fm:List aA) (nq:dU.length≤1048576) (nt:ab.aJ dU) (np:fD.size≤1048576) (nm:dQ.length≤1048576) (nr:an.aJ dQ) (nk:fC.length≤1048576) (gM:ao.length≤1048576) (oS:fm.length≤1048576) (oT:aA.aJ fm):Gw TT 372 [.st (kr k0 cG jl jO dU fB iN iP iO iQ iS iR fD dQ iM fC jR ef ao jP jQ bJ fP ij jw fm)]=some (vb (pj jl jO dU fB (qC iN iP iO iQ iS iR fD dQ iM fC) jR ef ao jP jQ bJ fP ij jw fm),[]):=by
 refine Ga GM OA ?_;unfold OA
 repeat' first|refine Zs ?_|((with_reducible refine Xk fun K k=>?_);simp [nq,nt,np,nm,nr,nk,gM,oS,oT];(repeat' (with_reducible first|refine k _ ?_|(refine fq ?_ ?_<;>(intro hc;(try rw [zd] at hc);first|(exfalso;omega)|(try simp [hc,nq,nt,np,nm,nr,nk,gM,oS,oT])))));all_goals clear k K)|(refine We rfl ?_ ?_<;>intro hc<;>(try simp at hc)<;>first|(exfalso;omega)|skip)
 all_goals first|(simp_all [GM,pj];done)|(simp_all [GM,pj];rw [zF];simp;done)
attribute [irreducible] qC
def sq:List aL→Bool
 |[]=>true
 |r::l=>if sn r.dW r.fW r.Kind r.ek=true∧0≤r.iz then sq l else false
def nj (k pc h id ts U' i j s Jf own:Int) (n:Nat):Bool:=
 decide (0≤k∧k≤4∧0≤pc∧pc≤9∧(n:Int)≤8∧0≤h∧0≤id∧0≤ts∧0≤U'∧0≤i∧0≤j∧0≤s∧0≤Jf∧0≤own)
def pV (k op id:Int) (bare:Bool):Bool:=wh k op&&(if op=0 then bare else decide (op=1∨op=2∨id=0))
def oA (hd:Bool) (l:List aL) (tl:Bool):Bool:=hd&&sq l&&tl
@[simp] theorem t58 (bJ fP ij:Int) (jw:Bool) (fm:List aA) (k:Int) (nq:dU.length≤1048576) (nt:ab.aJ dU) (np:fD.size≤1048576) (nm:dQ.length≤1048576) (nr:an.aJ dQ) (nk:fC.length≤1048576) (gM:ao.length≤1048576) (oS:fm.length≤1048576) (oT:aA.aJ fm):Gw TT 58 [.st (kr k0 cG jl jO dU fB iN iP iO iQ iS iR fD dQ iM fC jR ef ao jP jQ bJ fP ij jw fm),vi k]=some (vb (oA (nj k jl jO fB jR ef jP jQ bJ fP ij ao.length) ao (pV k cG fB (pj jl jO dU fB (qC iN iP iO iQ iS iR fD dQ iM fC) jR ef ao jP jQ bJ fP ij jw fm))),[]):=by
 refine Ga AP QF ?_;unfold QF
 repeat' (first
  |with_reducible (first|refine wp_seq ?_|refine uq ?_|refine wp_skip ?_|refine wp_exit ?_|refine wp_ret ?_|refine ud ?_|refine ue ?_|refine uc ?_|refine sP ?_|refine sQ ?_|refine sO ?_|refine tQ ?_|refine tP ?_|refine tR ?_|refine tg ?_|refine tf ?_|refine tc ?_|refine ta ?_|refine te ?_|refine td ?_)
  |(with_reducible refine wp_loop (c:=Ui) ?_
    conv=>arg 2;unfold Ui)
  |(with_reducible refine ur fun K hK=>?_
    simp[nq,nt,np,nm,nr,nk,gM,oS,oT]
    repeat' (with_reducible first|refine hK _ ?_|(refine fq ?_ ?_<;>(intro hc;(try rw [zd] at hc);first|(exfalso;omega)|(try simp [hc,nq,nt,np,nm,nr,nk,gM,oS,oT]))))
    all_goals (clear hK;clear K))
  |(with_reducible refine u' ?_
    refine ⟨_,rfl,?_,?_⟩<;>(intro hc;(try simp at hc);(all_goals first|(exfalso;omega)|skip))))
 all_goals first|(simp_all [AP,oA,nj,pV];done)|(simp [AP,oA,nj,pV];intros;omega)|skip
 refine ba (σ:=List aL×List aL) (fun s=>[(2,AV.bx 2 0,some (Rt.bx (kr k0 cG jl jO dU fB iN iP iO iQ iS iR fD dQ iM fC jR ef ao jP jQ bJ fP ij jw fm))),(59,AV.v k0 (D.sl 5 (ao.map aL.e)),none),(60,vn (ao.length:Nat),none),(61,vn ((s.1.length:Nat):Int),none)]) (fun s=>ao=s.1++s.2∧sq s.2=sq ao) (fun s=>s.2.length) ([],ao) (by simp) ⟨rfl,rfl⟩ ?_;rintro ⟨pre,rest⟩ ⟨h1,h2⟩;simp only at h1 h2;subst h1;have Dw:=gM;simp only [zb,za] at Dw;rcases rest with _|⟨d,rest⟩
 ·unfold Uh;simp only [sq] at h2;have hl:pre.length≤1048576:=by simpa using gM
  refine Ud (J8 nq nt np nm nr nk gM (J3 oS oT hl)) ?_ ?_ ?_ ?_ ?_;all_goals repeat intro hc
  all_goals simp_all [AP,oA,nj,pV,pj]
 ·unfold Uh;simp only [za] at Dw;simp only [sq] at h2;have hw:=Wi ((pre.length:Int)+1);refine Ud hw ?_ ?_ ?_;all_goals repeat intro hc
  all_goals first|(rw [if_neg (by intro q;have q2:=q.2;omega)] at h2;simp_all [AP,oA];done)|(refine ⟨(pre++[d],rest),?_,⟨?_,?_⟩,?_⟩;(focus (first|(simp;done)|(simp_all;done)));(focus (simp;done));(focus (refine zp ?_ h2;clear h2;simp_all;done));(focus (simp;done)))|(simp_all [AP,oA,nj,pV,pj];done)
@[simp] theorem t339 (bJ fP ij:Int) (jw:Bool) (fm:List aA) (k:Int) (nq:dU.length≤1048576) (nt:ab.aJ dU) (np:fD.size≤1048576) (nm:dQ.length≤1048576) (nr:an.aJ dQ) (nk:fC.length≤1048576) (gM:ao.length≤1048576) (oS:fm.length≤1048576) (oT:aA.aJ fm):Gw TT 339 [.st (kr k0 cG jl jO dU fB iN iP iO iQ iS iR fD dQ iM fC jR ef ao jP jQ bJ fP ij jw fm),vi k]=some (vb (oA (nj k jl jO fB jR ef jP jQ bJ fP ij ao.length) ao (pV k cG fB (pj jl jO dU fB (qC iN iP iO iQ iS iR fD dQ iM fC) jR ef ao jP jQ bJ fP ij jw fm))),[]):=by
 refine Ga xy Ou ?_;unfold Ou
 repeat' first|refine Zs ?_|((with_reducible refine Xk fun K k=>?_);simp [nq,nt,np,nm,nr,nk,gM,oS,oT];(repeat' (with_reducible first|refine k _ ?_|(refine fq ?_ ?_<;>(intro hc;(try rw [zd] at hc);first|(exfalso;omega)|(try simp [hc,nq,nt,np,nm,nr,nk,gM,oS,oT])))));all_goals clear k K)|(refine We rfl ?_ ?_<;>intro hc<;>(try simp at hc)<;>first|(exfalso;omega)|skip)
 all_goals first|(simp [xy,oA,nj,pV];intros;omega)|skip
 refine ba (σ:=List aL×List aL) (fun s=>[(1,vn k,none),(2,AV.bx 2 0,some (Rt.bx (kr k0 cG jl jO dU fB iN iP iO iQ iS iR fD dQ iM fC jR ef ao jP jQ bJ fP ij jw fm))),(5,vn ((s.1.length:Nat):Int),none)]) (fun s=>ao=s.1++s.2∧sq s.2=sq ao) (fun s=>s.2.length) ([],ao) (by simp) ⟨rfl,rfl⟩ ?_;rintro ⟨pre,rest⟩ ⟨h1,h2⟩;simp only at h1 h2;subst h1;have Dw:=gM;simp only [zb,za] at Dw;rcases rest with _|⟨d,rest⟩
 ·unfold To;simp only [sq] at h2;have hl:pre.length≤1048576:=by simpa using gM
  repeat' first|refine Zs ?_|((with_reducible refine Xk fun K k=>?_);simp [nq,nt,np,nm,nr,nk,gM,oS,oT,hl];(repeat' (with_reducible first|refine k _ ?_|(refine fq ?_ ?_<;>(intro hc;(try rw [zd] at hc);first|(exfalso;omega)|(try simp [hc,nq,nt,np,nm,nr,nk,gM,oS,oT,hl])))));all_goals clear k K)|(refine We rfl ?_ ?_<;>intro hc<;>(try simp at hc)<;>first|(exfalso;omega)|skip)
  all_goals first|((have hq:nj k jl jO fB jR ef jP jQ bJ fP ij pre.length=true:=(by simp only [nj,decide_eq_true_eq];simp only [zr] at *;omega));simp only [zr] at *;have h3:=h2.symm;clear h2;simp [xy,oA,pV,wh, *];done)|((have hq:nj k jl jO fB jR ef jP jQ bJ fP ij pre.length=true:=(by simp only [nj,decide_eq_true_eq];simp only [zr] at *;omega));simp only [zr] at *;have h3:=h2.symm;clear h2;simp [xy,oA,pV,wh, *];omega)|((have hq:nj k jl jO fB jR ef jP jQ bJ fP ij pre.length=true:=(by simp only [nj,decide_eq_true_eq];simp only [zr] at *;omega));simp only [zr] at *;have h3:=h2.symm;clear h2;simp [xy,oA,pV,wh, *];rw [zF];(first|(simp;done)|(simp;omega)))
 ·unfold To;simp only [za] at Dw;simp only [sq] at h2;have hw:=Wi ((pre.length:Int)+1);refine Ud hw ?_ ?_ ?_ ?_;all_goals repeat intro hc
  all_goals first|(rw [if_neg (by intro q;have q2:=q.2;omega)] at h2;simp_all [xy,oA];done)|(refine ⟨(pre++[d],rest),?_,⟨?_,?_⟩,?_⟩;(focus (first|(simp;done)|(simp_all;done)));(focus (simp;done));(focus (refine zp ?_ h2;clear h2;simp_all;done));(focus (simp;done)))|(simp_all [xy,oA,nj,pV,pj];done)
def kx (B:List aU) (r:aL):Bool:=r.Kind==1&&jk B r.dW r.fW r.Kind r.ek
theorem aiz {B:List aU} {r:aL} (h:kx B r=true):∃pre b rest,B=pre++b::rest∧r.dW=(pre.length:Int)∧r.Kind=1∧b.fW=r.fW∧b.Kind=r.Kind∧(b.C.L.length:Int)=r.ek:=by
 simp only [kx,ze,beq_iff_eq] at h;obtain ⟨h1,h2⟩:=h;by_cases hb:0≤r.dW∧r.dW<(B.length:Int)
 ·obtain ⟨pre,b,rest,rfl,hp⟩:=UO B r.dW.toNat (by omega);have hq:r.dW=(pre.length:Int):=by omega
  refine ⟨pre,b,rest,rfl,hq,h1,?_⟩;simp [jk,hq,h1] at h2;exact ⟨h2.1.1,by rw [h1];exact h2.1.2,h2.2⟩
 ·rw [ID hb] at h2;cases h2
theorem abr {B:List aU} {r:aL} (h:kx B r=true):∃b,B[r.dW.toNat]?=some b∧0≤r.dW∧r.dW<(B.length:Int)∧b∈B:=by
 obtain ⟨pre,b,rest,rfl,h2,_⟩:=aiz h;refine ⟨b,by rw [h2];simp,by omega,by rw [h2];simp;omega,by simp⟩
theorem amF (h:ae.length≤1048576) (hc:kx ae ⟨bo,bz,bV,bj,aZ⟩=true) (b:aU) (hb:ae[bo.toNat]?=some b):
 Gw TT 68 [.st (cb k0 af ax aM aG ak aI aK au ae aj aw aH aq az),.st (lX bo bz bV bj aZ)]=some (.cf [.st [ri b.C.Next,rl k0 2 (b.C.L.map bp.e)],vb true],[]):=by
 have C7:=hc;simp only [kx,ze,beq_iff_eq] at C7;obtain ⟨hk,ht⟩:=C7;obtain ⟨_,_,jr,iV,_⟩:=abr hc;simp only at jr iV;obtain ⟨ai,he⟩:=zj.1 hb;refine Ga Ew D1 ?_;unfold D1;refine Uw (J6 h ht hk jr iV he) ?_ ?_;all_goals repeat intro hc
 all_goals first|(simp [Ew,he];done)|(simp_all;done)
theorem amE (h:ae.length≤1048576) (hc:kx ae ⟨bo,bz,bV,bj,aZ⟩=false):
 Gw TT 68 [.st (cb k0 af ax aM aG ak aI aK au ae aj aw aH aq az),.st (lX bo bz bV bj aZ)]=some (.cf [.st [ri 0,.own (.sl 2 [])],vb false],[]):=by
 simp only [kx,Bool.and_eq_false_iff] at hc;refine Ga Ew D1 ?_;unfold D1;refine Ud h ?_ ?_ ?_ ?_;all_goals repeat intro hc
 all_goals first|(simp [Ew];done)|(exfalso;simp_all;done)
@[simp] theorem t78 (ao:List bp) (i:Int):Gw TT 78 [.st [ri eu,rl k0 2 (ao.map bp.e)],vi i]=some (vb (decide (0≤i)&&decide (i<(ao.length:Int))),[]):=by
 refine Ga Hz Q4 ?_;unfold Q4;refine Ud Oo ?_ ?_;all_goals repeat intro hc
 all_goals first|(simp_all [Hz];done)|(simp_all [Hz];omega)
@[simp] theorem aoT:lq []=true:=rfl
@[simp] theorem FA {α:Type} (f:α→List D) (l:List α) (h:∀x,(f x).all D.dt=true):lq (l.map f)=true:=by
 simp only [lq,List.all_map,Zh,Function.comp];exact fun x _=>Zh.1 (h x)
@[simp] theorem aoU (e:List D) (l:List (List D)):lq (e::l)=(e.all D.dt&&lq l):=rfl
@[simp] theorem aoS (l m:List (List D)):lq (l++m)=(lq l&&lq m):=by simp [lq]
@[simp] theorem aqV (k:IntKind) (n:Int):(D.int k n).live=true:=rfl
@[simp] theorem aqU (b:Bool):(D.bool b).live=true:=rfl
@[simp] theorem aqX:(D.str s).live=true:=rfl
@[simp] theorem aqW (sz:Nat) (es:List (List D)):(D.sl sz es).live=true:=rfl
@[simp] theorem aow (x:UInt8):(ByteArray.mk #[x]).size=1:=rfl
@[simp] theorem asK {α:Type} {n:Nat} (l r:List α) (x:α) (h:n=l.length+(r.length+1)):(l++x::r).take n=l++x::r:=by
 rw [Za];simp only [zb,za];omega
@[simp] theorem aoE {α:Type} {n:Nat} (l r:List α) (x:α) (h:n=l.length+1):(l++x::r).drop n=r:=by
 subst h;rw [List.drop_append];simp
@[simp] theorem asL {α β:Type} (f:α→β) (l:List α):(l.map f).take l.length=l.map f:=by
 rw [Za];simp
@[simp] theorem ae5 {α:Type} (f:α→List D) (l:List α) (n:Nat) (h:∀x,(f x).all D.dt=true):lq ((l.map f).drop n)=true:=by
 rw [←List.map_drop];exact FA f _ h
@[simp] theorem aoV {α:Type} (f:α→List D) (l:List α) (n:Nat) (h:∀x,(f x).all D.dt=true):lq ((l.map f).take n)=true:=by
 rw [←List.map_take];exact FA f _ h
@[simp] theorem t76 (h:l.length≤1048576):Gw TT 76 [.one (rl k0 3 (l.map ab.e))]=some (.one (.own (.sl 3 (l.map ab.e))),[]):=by
 refine oD (F:=SC) rfl rfl ?_;show Wp _ Q2 _ _;unfold Q2
 repeat' first|refine Zs ?_|((with_reducible refine Xk fun K k=>?_);simp [h];(repeat' (with_reducible first|refine k _ ?_|(refine fq ?_ ?_<;>(intro hc;(try rw [zd] at hc);first|(exfalso;omega)|(try simp [hc,h])))));all_goals clear k K)|refine Xt rfl ?_|refine Xf rfl ?_
 simp [SC]
@[simp] theorem t69 (l:List Int) (h:l.length≤1048576):Gw TT 69 [.one (rl k0 1 (l.map eb))]=some (.one (.own (.sl 1 (l.map eb))),[]):=by
 refine oD (F:=SB) rfl rfl ?_;show Wp _ Q1 _ _;unfold Q1
 repeat' first|refine Zs ?_|((with_reducible refine Xk fun K k=>?_);simp [h];(repeat' (with_reducible first|refine k _ ?_|(refine fq ?_ ?_<;>(intro hc;(try rw [zd] at hc);first|(exfalso;omega)|(try simp [hc,h])))));all_goals clear k K)|refine Xt rfl ?_|refine Xf rfl ?_
 simp [SB]
def nA (e:Int):List Int→Bool
 |[]=>true
 |p::l=>if p≠-1∧¬(0≤p∧p≤e) then false else nA e l
@[simp] theorem t38 (l:List Int) (e:Int) (h:l.length≤1048576):Gw TT 38 [.one (rl k0 1 (l.map ei)),vi e]=some (vb (nA e l),[]):=by
 refine Ga GP OD ?_;unfold OD;refine Ud Oo ?_;refine ba (σ:=List (Int)×List (Int)) (fun s=>[(1,vn e,none),(7,AV.v k0 (D.sl 1 (l.map ei)),none),(8,vn (l.length:Nat),none),(9,vn ((s.1.length:Nat):Int),none)]) (fun s=>l=s.1++s.2∧nA e s.2=nA e l) (fun s=>s.2.length) ([],l) (by simp) ⟨rfl,rfl⟩ ?_;rintro ⟨pre,rest⟩ ⟨h1,h2⟩;simp only at h1 h2;subst h1;simp only [zb,za] at h;rcases rest with _|⟨d,rest⟩
 ·unfold Tt;simp only [nA] at h2;refine Ud Oo ?_;repeat intro hc
  simp_all [GP]
 ·unfold Tt;simp only [za] at h;simp only [nA] at h2;have hw:=Wi ((pre.length:Int)+1);refine Ud hw ?_ ?_ ?_;all_goals repeat intro hc
  all_goals first|(refine ⟨(pre++[d],rest),?_,⟨?_,?_⟩,?_⟩;(focus (first|(simp;done)|(simp_all;done)));(focus (simp;done));(focus (refine zp ?_ h2;clear h2;first|(simp [*];done)|(simp_all;done)|(split<;>simp_all<;>omega)|(split<;>first|(exfalso;omega)|(simp_all;done))));(focus (simp;done)))|(split at h2<;>first|(exfalso;omega)|(simp_all [GP];done))
@[simp] theorem t318 (l:List Int) (e:Int) (h:l.length≤1048576):Gw TT 318 [.one (rl k0 1 (l.map ei)),vi e]=some (vb (nA e l),[]):=by
 refine Ga GI On ?_;unfold On;refine Ud Oo ?_;refine ba (σ:=List (Int)×List (Int)) (fun s=>[(0,AV.v k0 (D.sl 1 (l.map ei)),none),(1,vn e,none),(5,vn ((s.1.length:Nat):Int),none)]) (fun s=>l=s.1++s.2∧nA e s.2=nA e l) (fun s=>s.2.length) ([],l) (by simp) ⟨rfl,rfl⟩ ?_;rintro ⟨pre,rest⟩ ⟨h1,h2⟩;simp only at h1 h2;subst h1;simp only [zb,za] at h;rcases rest with _|⟨d,rest⟩
 ·unfold Tl;simp only [nA] at h2;refine Ud Oo ?_;repeat intro hc
  simp_all [GI]
 ·unfold Tl;simp only [za] at h;simp only [nA] at h2;have hw:=Wi ((pre.length:Int)+1);refine Ud hw ?_ ?_ ?_;all_goals repeat intro hc
  all_goals first|(refine ⟨(pre++[d],rest),?_,⟨?_,?_⟩,?_⟩;(focus (first|(simp;done)|(simp_all;done)));(focus (simp;done));(focus (refine zp ?_ h2;clear h2;first|(simp [*];done)|(simp_all;done)|(split<;>simp_all<;>omega)|(split<;>first|(exfalso;omega)|(simp_all;done))));(focus (simp;done)))|(split at h2<;>first|(exfalso;omega)|(simp_all [GI];done))
theorem VR (bs:ByteArray):∀(k i:Nat) (r:List UInt8),bs.size-i=k→(zS bs i r).length=k+r.length
 |0,i,r,h=>by
  rw [zS,if_neg (by omega)];simp
 |k+1,i,r,h=>by
  rw [zS,if_pos (by omega),VR bs k (i+1) _ (by omega)];simp;omega
theorem Jj (bs:ByteArray):bs.toList.length=bs.size:=by
 unfold ByteArray.toList;rw [VR bs bs.size 0 [] (by omega)];simp
def AE (b:UInt8):Bool:=decide ((97≤b.toNat∧b.toNat≤122)∨(48≤b.toNat∧b.toNat≤57))
def sw:List UInt8→Bool
 |[]=>true
 |b::l=>if AE b=true then sw l else false
def jK (n:Int):Bool:=decide (-1000000000≤n)&&decide (n≤1000000000)
def ec (ty n:Int) (s:ByteArray):Bool:=if ty=1 then jK n&&(s.toList==(⟨#[]⟩:ByteArray).toList) else (decide (ty=2)&&(decide (n=0)&&(decide (s.size≤6)&&sw s.toList)))
@[simp] theorem t79:Gw TT 79 [vi n]=some (vb (jK n),[]):=by
 refine Ga SD Q5 ?_;unfold Q5;refine Uw Oo ?_;simp [SD,jK]
@[simp] theorem arD:Gw TT 384 [vi n]=some (vb (jK n),[]):=by
 refine Ga Sf OE ?_;unfold OE;refine Uw Oo ?_;simp [Sf,jK]
@[simp] theorem t60 (h:bJ.size≤1048576):Gw TT 60 [.st (kO dB du bJ)]=some (vb (ec dB du bJ),[]):=by
 refine Ga AR QY ?_;unfold QY;by_cases u1:dB=1
 ·refine Uc u1 ?_ ?_;all_goals repeat intro hc
  all_goals simp_all [AR,ec]
 ·by_cases u2:dB=2
  ·refine Uc (J2 u1 u2) ?_;repeat intro hc
   refine ba (σ:=List UInt8×List UInt8) (fun s=>[(1,AV.bx 1 0,some (Rt.bx (kO dB du bJ))),(3,vn ((s.1.length:Nat):Int),none)]) (fun s=>bJ.toList=s.1++s.2∧sw s.2=sw bJ.toList) (fun s=>s.2.length) ([],bJ.toList) (by simp [u2]) ⟨rfl,rfl⟩ ?_;rintro ⟨pre,rest⟩ ⟨h1,h2⟩;simp only at h1 h2;have hl:=Jj bJ;rw [h1,zb] at hl;rcases rest with _|⟨d,rest⟩
   ·simp only [zi] at hl;simp only [sw] at h2;have dM:(bJ.size:Int)=(pre.length:Int):=by omega
    unfold Um;by_cases q1:pre.length≤6
    ·have q2:bJ.size≤6:=by omega
     have q3:(pre.length:Int)≤6:=by omega
     refine Uc (J4 dM q1 q2 q3) ?_;repeat intro hc
     by_cases z:du=0<;>simp_all [AR,ec]
    ·have q2:¬bJ.size≤6:=by omega
     have q3:¬(pre.length:Int)≤6:=by omega
     refine Uc (J4 dM q1 q2 q3) ?_;repeat intro hc
     simp_all [AR,ec]
   ·simp only [za] at hl;simp only [sw] at h2;have hg:bJ.toList[pre.length]?=some d:=by rw [h1];simp
    have ai:(pre.length:Int)<(bJ.size:Int):=by omega
    have kU:pre.length<bJ.size:=by omega
    have hw:=Wi ((pre.length:Int)+1);unfold Um;by_cases o:AE d=true
    ·rw [if_pos o] at h2;simp only [AE,decide_eq_true_eq] at o;refine Uc (J4 hg ai kU hw) ?_ ?_;all_goals repeat intro hc
     all_goals exact ⟨(pre++[d],rest),by simp,⟨by rw [h1];simp,h2⟩,by simp⟩
    ·rw [if_neg o] at h2;have o2:=o;simp only [AE,decide_eq_true_eq] at o2;refine Uc (J4 hg ai kU hw) ?_ ?_ ?_;all_goals repeat intro hc
     all_goals simp [AR,ec,u1,u2,←h2]
  ·refine Uc (J2 u1 u2) ?_;repeat intro hc
   simp [AR,ec,u1,u2]
@[simp] theorem t341 (h:bJ.size≤1048576):Gw TT 341 [.st (kO dB du bJ)]=some (vb (ec dB du bJ),[]):=by
 refine Ga AI Ow ?_;unfold Ow;by_cases u1:dB=1
 ·refine Uc u1 ?_ ?_;all_goals repeat intro hc
  all_goals simp_all [AI,ec]
 ·refine Uc u1 ?_;repeat intro hc
  refine ba (σ:=List UInt8×List UInt8) (fun s=>[(1,AV.bx 1 0,some (Rt.bx (kO dB du bJ))),(3,vn ((s.1.length:Nat):Int),none)]) (fun s=>bJ.toList=s.1++s.2∧sw s.2=sw bJ.toList) (fun s=>s.2.length) ([],bJ.toList) (by simp) ⟨rfl,rfl⟩ ?_;rintro ⟨pre,rest⟩ ⟨h1,h2⟩;simp only at h1 h2;have hl:=Jj bJ;rw [h1,zb] at hl;rcases rest with _|⟨d,rest⟩
  ·simp only [zi] at hl;simp only [sw] at h2;have dM:(bJ.size:Int)=(pre.length:Int):=by omega
   unfold Tp;by_cases q1:pre.length≤6
   ·have q2:bJ.size≤6:=by omega
    have q3:(pre.length:Int)≤6:=by omega
    refine Uc (J4 dM q1 q2 q3) ?_ ?_ ?_;all_goals repeat intro hc
    all_goals simp_all [AI,ec]
   ·have q2:¬bJ.size≤6:=by omega
    have q3:¬(pre.length:Int)≤6:=by omega
    refine Uc (J4 dM q1 q2 q3) ?_ ?_ ?_;all_goals repeat intro hc
    all_goals simp_all [AI,ec]
  ·simp only [za] at hl;simp only [sw] at h2;have hg:bJ.toList[pre.length]?=some d:=by rw [h1];simp
   have ai:(pre.length:Int)<(bJ.size:Int):=by omega
   have kU:pre.length<bJ.size:=by omega
   have hw:=Wi ((pre.length:Int)+1);have Ml:IntKind.wrap .i64 (d.toNat:Int)=(d.toNat:Int):=wrap_i64 (by omega) (by have:=d.toNat_lt;omega);unfold Tp;by_cases q1:pre.length≤6
   ·have q3:(pre.length:Int)≤6:=by omega
    by_cases o:AE d=true
    ·rw [if_pos o] at h2;simp only [AE,decide_eq_true_eq] at o;refine Uc (J7 hg ai kU hw Ml q1 q3) ?_ ?_;all_goals repeat intro hc
     all_goals exact ⟨(pre++[d],rest),by simp,⟨by rw [h1];simp,h2⟩,by simp⟩
    ·rw [if_neg o] at h2;have o2:=o;simp only [AE,decide_eq_true_eq] at o2;refine Uc (J7 hg ai kU hw Ml q1 q3) ?_;repeat intro hc
     simp [AI,ec,u1,←h2]
   ·have q3:¬(pre.length:Int)≤6:=by omega
    have q2:¬bJ.size≤6:=by omega
    have q4:¬(bJ.size:Int)≤6:=by omega
    refine Uc (J8 hg ai kU hw Ml q1 q3 q4) ?_ ?_ ?_;all_goals repeat intro hc
    all_goals simp [AI,ec,u1,q2,q4,q3]
def qR:List Int→List ab→Bool
 |_,[]=>true
 |[],_::_=>false
 |b::bs,v::l=>if ec v.Ty v.N v.S=true∧v.Ty=b then qR bs l else false
def lp (cols:List Int) (l:List ab):Bool:=decide (l.length=cols.length)&&qR cols l
@[simp] theorem t19 (cols:List Int) (l:List ab) (h:cols.length≤1048576) (h5:l.length≤1048576) (hs:ab.aJ l):Gw TT 19 [.one (rl k0 1 (cols.map ei)),.one (rl k1 3 (l.map ab.e))]=some (vb (lp cols l),[]):=by
 refine Ga B6 Nm ?_;unfold Nm;by_cases y0:l.length=cols.length
 ·have y1:(l.length:Int)=(cols.length:Int):=by omega
  refine Uw y1 ?_;repeat intro hc
  refine ba (σ:=List Int×List Int×List ab×List ab) (fun s=>[(0,AV.v k0 (D.sl 1 (cols.map ei)),none),(12,AV.v k1 (D.sl 3 (l.map ab.e)),none),(13,vn (l.length:Nat),none),(14,vn ((s.2.2.1.length:Nat):Int),none)]) (fun s=>cols=s.1++s.2.1∧l=s.2.2.1++s.2.2.2∧s.1.length=s.2.2.1.length∧qR s.2.1 s.2.2.2=qR cols l) (fun s=>s.2.2.2.length) ([],cols,[],l) (by simp [y1]) ⟨rfl,rfl,rfl,rfl⟩ ?_;rintro ⟨p1,r1,p2,r2⟩ ⟨h1,h2,h3,h4⟩;simp only at h1 h2 h3 h4;have y2:cols.length=p1.length+r1.length:=by rw [h1,zb]
  have y3:l.length=p2.length+r2.length:=by rw [h2,zb]
  rcases r2 with _|⟨d,r2⟩
  ·simp only [zi] at y3;simp only [qR] at h4;have y4:¬(p2.length:Int)<(l.length:Int):=by omega
   unfold EA;refine Uw y4 ?_;repeat intro hc
   simp [B6,lp,y0,←h4]
  ·rcases r1 with _|⟨b,r1⟩
   ·simp only [zi,za] at y2 y3;omega
   simp only [za] at y2 y3;have hd:=hs d (by rw [h2];simp);simp only [ab.sm] at hd;simp only [qR] at h4;have kT:cols[p2.length]?=some b:=by rw [h1,←h3];simp
   have ey:l[p2.length]?=some d:=by rw [h2];simp
   obtain ⟨kU,yA⟩:=zj.1 kT;obtain ⟨ai,gZ⟩:=zj.1 ey;have y4:(p2.length:Int)<(l.length:Int):=by omega
   have y5:(p2.length:Int)<(cols.length:Int):=by omega
   have hw:IntKind.wrap .i64 ((p2.length:Int)+1)=(p2.length:Int)+1:=wrap_i64 (by omega) (by omega);unfold EA;by_cases o1:ec d.Ty d.N d.S=true
   ·by_cases o2:d.Ty=b
    ·rw [if_pos ⟨o1,o2⟩] at h4;have o3:ec b d.N d.S=true:=o2▸o1;refine Uw (J8 kT ey yA gZ ai kU y4 (J6 y5 hw hd o1 o2 o3)) ?_;repeat intro hc
     exact ⟨(p1++[b],r1,p2++[d],r2),by simp,⟨by rw [h1];simp,by rw [h2];simp,by simp [h3],h4⟩,by simp⟩
    ·rw [if_neg (fun q=>o2 q.2)] at h4;have o4:(d.Ty==b)=false:=by simpa using o2
     have o5:(d.Ty !=b)=true:=by simpa using o2
     refine Uw (J8 kT ey yA gZ ai kU y4 (J6 y5 hw hd o1 o4 o5)) ?_;repeat intro hc
     simp [B6,lp,y0,←h4]
   ·rw [if_neg (fun q=>o1 q.1)] at h4;have o3:ec d.Ty d.N d.S=false:=by simpa using o1
    refine Uw (J8 kT ey yA gZ ai kU y4 (J4 y5 hw hd o3)) ?_;repeat intro hc
    simp [B6,lp,y0,←h4]
 ·have y1:¬(l.length:Int)=(cols.length:Int):=by omega
  have y2:¬(cols.length:Int)=(l.length:Int):=by omega
  repeat' (first
   |with_reducible (first|refine wp_seq ?_|refine uq ?_|refine wp_skip ?_|refine wp_exit ?_|refine wp_ret ?_|refine ud ?_|refine ue ?_|refine uc ?_|refine sP ?_|refine sQ ?_|refine sO ?_|refine tQ ?_|refine tP ?_|refine tR ?_|refine tg ?_|refine tf ?_|refine tc ?_|refine ta ?_|refine te ?_|refine td ?_)
   |(with_reducible refine wp_loop (c:=EA) ?_
     conv=>arg 2;unfold EA)
   |(with_reducible refine ur fun K hK=>?_
     simp[y1,y2]
     repeat' (with_reducible first|refine hK _ ?_|(refine fq ?_ ?_<;>(intro hc;(try rw [zd] at hc);first|(exfalso;omega)|(try simp [hc,y1,y2]))))
     all_goals (clear hK;clear K))
   |(with_reducible refine u' ?_
     refine ⟨_,rfl,?_,?_⟩<;>(intro hc;(try simp at hc);(all_goals first|(exfalso;omega)|skip))))
  simp [B6,lp,y0]
@[simp] theorem t298 (cols:List Int) (l:List ab) (h:cols.length≤1048576) (h5:l.length≤1048576) (hs:ab.aJ l):Gw TT 298 [.one (rl k0 1 (cols.map ei)),.one (rl k1 3 (l.map ab.e))]=some (vb (lp cols l),[]):=by
 refine Ga B9 Ok ?_;unfold Ok;by_cases y0:l.length=cols.length
 ·have y1:(l.length:Int)=(cols.length:Int):=by omega
  refine Uw y1 ?_;repeat intro hc
  refine ba (σ:=List Int×List Int×List ab×List ab) (fun s=>[(0,AV.v k0 (D.sl 1 (cols.map ei)),none),(1,AV.v k1 (D.sl 3 (l.map ab.e)),none),(5,vn ((s.2.2.1.length:Nat):Int),none)]) (fun s=>cols=s.1++s.2.1∧l=s.2.2.1++s.2.2.2∧s.1.length=s.2.2.1.length∧qR s.2.1 s.2.2.2=qR cols l) (fun s=>s.2.2.2.length) ([],cols,[],l) (by simp [y1]) ⟨rfl,rfl,rfl,rfl⟩ ?_;rintro ⟨p1,r1,p2,r2⟩ ⟨h1,h2,h3,h4⟩;simp only at h1 h2 h3 h4;have y2:cols.length=p1.length+r1.length:=by rw [h1,zb]
  have y3:l.length=p2.length+r2.length:=by rw [h2,zb]
  rcases r2 with _|⟨d,r2⟩
  ·simp only [zi] at y3;simp only [qR] at h4;have y4:¬(p2.length:Int)<(l.length:Int):=by omega
   unfold EB;refine Uw y4 ?_;repeat intro hc
   simp [B9,lp,y0,←h4]
  ·rcases r1 with _|⟨b,r1⟩
   ·simp only [zi,za] at y2 y3;omega
   simp only [za] at y2 y3;have hd:=hs d (by rw [h2];simp);simp only [ab.sm] at hd;simp only [qR] at h4;have kT:cols[p2.length]?=some b:=by rw [h1,←h3];simp
   have ey:l[p2.length]?=some d:=by rw [h2];simp
   obtain ⟨kU,yA⟩:=zj.1 kT;obtain ⟨ai,gZ⟩:=zj.1 ey;have y4:(p2.length:Int)<(l.length:Int):=by omega
   have y5:(p2.length:Int)<(cols.length:Int):=by omega
   have hw:IntKind.wrap .i64 ((p2.length:Int)+1)=(p2.length:Int)+1:=wrap_i64 (by omega) (by omega);unfold EB;by_cases o1:ec d.Ty d.N d.S=true
   ·by_cases o2:d.Ty=b
    ·rw [if_pos ⟨o1,o2⟩] at h4;have o3:ec b d.N d.S=true:=o2▸o1;refine Uw (J8 kT ey yA gZ ai kU y4 (J6 y5 hw hd o1 o2 o3)) ?_;repeat intro hc
     exact ⟨(p1++[b],r1,p2++[d],r2),by simp,⟨by rw [h1];simp,by rw [h2];simp,by simp [h3],h4⟩,by simp⟩
    ·rw [if_neg (fun q=>o2 q.2)] at h4;have o4:(d.Ty==b)=false:=by simpa using o2
     have o5:(d.Ty !=b)=true:=by simpa using o2
     refine Uw (J8 kT ey yA gZ ai kU y4 (J6 y5 hw hd o1 o4 o5)) ?_;repeat intro hc
     simp [B9,lp,y0,←h4]
   ·rw [if_neg (fun q=>o1 q.1)] at h4;have o3:ec d.Ty d.N d.S=false:=by simpa using o1
    refine Uw (J8 kT ey yA gZ ai kU y4 (J4 y5 hw hd o3)) ?_;repeat intro hc
    simp [B9,lp,y0,←h4]
 ·have y1:¬(l.length:Int)=(cols.length:Int):=by omega
  have y2:¬(cols.length:Int)=(l.length:Int):=by omega
  repeat' (first
   |with_reducible (first|refine wp_seq ?_|refine uq ?_|refine wp_skip ?_|refine wp_exit ?_|refine wp_ret ?_|refine ud ?_|refine ue ?_|refine uc ?_|refine sP ?_|refine sQ ?_|refine sO ?_|refine tQ ?_|refine tP ?_|refine tR ?_|refine tg ?_|refine tf ?_|refine tc ?_|refine ta ?_|refine te ?_|refine td ?_)
   |(with_reducible refine wp_loop (c:=EB) ?_
     conv=>arg 2;unfold EB)
   |(with_reducible refine ur fun K hK=>?_
     simp[y1,y2]
     repeat' (with_reducible first|refine hK _ ?_|(refine fq ?_ ?_<;>(intro hc;(try rw [zd] at hc);first|(exfalso;omega)|(try simp [hc,y1,y2]))))
     all_goals (clear hK;clear K))
   |(with_reducible refine u' ?_
     refine ⟨_,rfl,?_,?_⟩<;>(intro hc;(try simp at hc);(all_goals first|(exfalso;omega)|skip))))
  simp [B9,lp,y0]
def jZ (cols:List Int) (nx i:Int) (d:bp):Bool:=decide (-1≤d.rC)&&(if d.rC=0 then decide (d.L=[]) else decide (i<nx)&&lp cols d.L)
def u9 (cols:List Int) (nx:Int):Int→List bp→Bool
 |_,[]=>true
 |i,d::l=>if jZ cols nx i d=true then u9 cols nx (i+1) l else false
def lY (cols:List Int) (nx:Int) (l:List bp):Bool:=decide (1≤(l.length:Int)∧(l.length:Int)≤4)&&(decide (0≤nx∧nx≤(l.length:Int))&&u9 cols nx 0 l)
@[simp] theorem t8:Gw TT 8 [vi n]=some (vb (decide (-1≤n)),[]):=by
 refine Ga SE Q6 ?_;unfold Q6;refine Uw Oo ?_;simp [SE]
@[simp] theorem t264:Gw TT 264 [vi n]=some (vb (decide (-1≤n)),[]):=by
 refine Ga Sa Ob ?_;unfold Ob;refine Uw Oo ?_;simp [Sa]
@[simp] theorem t10 (cols:List Int) (h:cols.length≤1048576) (k1:Bool) (eu:Int) (ao:List bp) (h5:ao.length≤1048576) (hs:bp.aJ ao):Gw TT 10 [.one (rl k0 1 (cols.map ei)),.st [ri eu,rl k1 2 (ao.map bp.e)]]=some (vb (lY cols eu ao),[]):=by
 refine Ga wo MQ ?_;unfold MQ;by_cases b1:1≤(ao.length:Int)∧(ao.length:Int)≤4
 ·by_cases b2:0≤eu∧eu≤(ao.length:Int)
  ·obtain ⟨n1,n2⟩:=b1;obtain ⟨n3,n4⟩:=b2;refine Ud (J4 n1 n2 n3 n4) ?_;repeat intro hc
   refine ba (σ:=List bp×List bp) (fun s=>[(0,AV.v k0 (D.sl 1 (cols.map ei)),none),(3,AV.bx 3 0,some (Rt.bx [ri eu,rl k1 2 (ao.map bp.e)])),(22,AV.v k1 (D.sl 2 (ao.map bp.e)),none),(23,vn (ao.length:Nat),none),(24,vn ((s.1.length:Nat):Int),none)]) (fun s=>ao=s.1++s.2∧u9 cols eu (s.1.length:Nat) s.2=u9 cols eu 0 ao) (fun s=>s.2.length) ([],ao) (by simp) ⟨rfl,rfl⟩ ?_;rintro ⟨p2,r2⟩ ⟨h2,h4⟩;simp only at h2 h4;have y3:ao.length=p2.length+r2.length:=by rw [h2,zb]
   rcases r2 with _|⟨d,r2⟩
   ·simp only [zi] at y3;simp only [u9] at h4;have y4:¬(p2.length:Int)<(ao.length:Int):=by omega
    have y6:(p2.length:Int)=(ao.length:Int):=by omega
    unfold Ez;refine Ud (J2 y4 y6) ?_;repeat intro hc
    simp [wo,lY,n1,n2,n3,n4,←h4]
   ·simp only [za] at y3;have hd:=hs d (by rw [h2];simp);simp only [bp.sm] at hd;obtain ⟨fj,ck⟩:=hd;simp only [u9] at h4;have ey:ao[p2.length]?=some d:=by rw [h2];simp
    obtain ⟨ai,gZ⟩:=zj.1 ey;have y4:(p2.length:Int)<(ao.length:Int):=by omega
    have hw:IntKind.wrap .i64 ((p2.length:Int)+1)=(p2.length:Int)+1:=wrap_i64 (by omega) (by omega);unfold Ez;by_cases g1:-1≤d.rC
    ·by_cases g2:d.rC=0
     ·by_cases g3:d.L=[]
      ·have o:jZ cols eu (p2.length:Nat) d=true:=by simp [jZ,g2,g3]
       rw [if_pos o] at h4;refine Ud (J8 ey gZ ai y4 hw fj ck (J3 h g2 g3)) ?_ ?_;all_goals repeat intro hc
       all_goals exact ⟨(p2++[d],r2),by simp,⟨by rw [h2];simp,by simpa using h4⟩,by simp⟩
      ·have g3l:=Zd.2 g3;have o:¬jZ cols eu (p2.length:Nat) d=true:=by simp [jZ,g2,g3]
       rw [if_neg o] at h4;refine Ud (J8 ey gZ ai y4 hw fj ck (J3 h g2 g3)) ?_ ?_;all_goals repeat intro hc
       all_goals simp [wo,lY,n1,n2,n3,n4,←h4]
     ·by_cases g4:(p2.length:Int)<eu
      ·by_cases g5:lp cols d.L=true
       ·have o:jZ cols eu (p2.length:Nat) d=true:=by simp [jZ,g1,g2,g4,g5]
        rw [if_pos o] at h4;refine Ud (J8 ey gZ ai y4 hw fj ck (J5 h g1 g2 g4 g5)) ?_;repeat intro hc
        exact ⟨(p2++[d],r2),by simp,⟨by rw [h2];simp,by simpa using h4⟩,by simp⟩
       ·have CX:lp cols d.L=false:=by simpa using g5
        have o:¬jZ cols eu (p2.length:Nat) d=true:=by simp [jZ,g1,g2,g4,CX]
        rw [if_neg o] at h4;refine Ud (J8 ey gZ ai y4 hw fj ck (J5 h g1 g2 g4 CX)) ?_;repeat intro hc
        simp [wo,lY,n1,n2,n3,n4,←h4]
      ·have o:¬jZ cols eu (p2.length:Nat) d=true:=by simp [jZ,g1,g2,g4]
       rw [if_neg o] at h4;refine Ud (J8 ey gZ ai y4 hw fj ck (J4 h g1 g2 g4)) ?_;repeat intro hc
       simp [wo,lY,n1,n2,n3,n4,←h4]
    ·have o:¬jZ cols eu (p2.length:Nat) d=true:=by simp [jZ,g1]
     rw [if_neg o] at h4;refine Ud (J8 ey gZ ai y4 hw fj ck (J2 h g1)) ?_;repeat intro hc
     simp [wo,lY,n1,n2,n3,n4,←h4]
  ·repeat' (first
    |with_reducible (first|refine wp_seq ?_|refine uq ?_|refine wp_skip ?_|refine wp_exit ?_|refine wp_ret ?_|refine ud ?_|refine ue ?_|refine uc ?_|refine sP ?_|refine sQ ?_|refine sO ?_|refine tQ ?_|refine tP ?_|refine tR ?_|refine tg ?_|refine tf ?_|refine tc ?_|refine ta ?_|refine te ?_|refine td ?_)
    |(with_reducible refine wp_loop (c:=Ez) ?_
      conv=>arg 2;unfold Ez)
    |(with_reducible refine ur fun K hK=>?_
      simp[b1.1,b1.2]
      repeat' (with_reducible first|refine hK _ ?_|(refine fq ?_ ?_<;>(intro hc;(try rw [zd] at hc);first|(exfalso;omega)|(try simp [hc,b1.1,b1.2]))))
      all_goals (clear hK;clear K))
    |(with_reducible refine u' ?_
      refine ⟨_,rfl,?_,?_⟩<;>(intro hc;(try simp at hc);(all_goals first|(exfalso;omega)|skip))))
   simp [wo,lY,b2]
 ·refine Ud Oo ?_;repeat intro hc
  simp [wo,lY,b1]
@[simp] theorem t266 (cols:List Int) (h:cols.length≤1048576) (k1:Bool) (eu:Int) (ao:List bp) (h5:ao.length≤1048576) (hs:bp.aJ ao):Gw TT 266 [.one (rl k0 1 (cols.map ei)),.st [ri eu,rl k1 2 (ao.map bp.e)]]=some (vb (lY cols eu ao),[]):=by
 refine Ga xx Oc ?_;unfold Oc;refine Ud Oo ?_;refine ba (σ:=List bp×List bp) (fun s=>[(0,AV.v k0 (D.sl 1 (cols.map ei)),none),(3,AV.bx 3 0,some (Rt.bx [ri eu,rl k1 2 (ao.map bp.e)])),(5,vn ((s.1.length:Nat):Int),none)]) (fun s=>ao=s.1++s.2∧u9 cols eu (s.1.length:Nat) s.2=u9 cols eu 0 ao) (fun s=>s.2.length) ([],ao) (by simp) ⟨rfl,rfl⟩ ?_;rintro ⟨p2,r2⟩ ⟨h2,h4⟩;simp only at h2 h4;have y3:ao.length=p2.length+r2.length:=by rw [h2,zb]
 rcases r2 with _|⟨d,r2⟩
 ·simp only [zi] at y3;simp only [u9] at h4;have y4:¬(p2.length:Int)<(ao.length:Int):=by omega
  have y6:(p2.length:Int)=(ao.length:Int):=by omega
  unfold Tg;refine Ud (J2 y4 y6) ?_ ?_;all_goals repeat intro hc
  all_goals first|(rw [←y6] at *;simp_all [xx,lY];done)|(exact (by simp [xx,lY,←h4];omega))
 ·simp only [za] at y3;have hd:=hs d (by rw [h2];simp);simp only [bp.sm] at hd;obtain ⟨fj,ck⟩:=hd;simp only [u9] at h4;have ey:ao[p2.length]?=some d:=by rw [h2];simp
  obtain ⟨ai,gZ⟩:=zj.1 ey;have y4:(p2.length:Int)<(ao.length:Int):=by omega
  have hw:IntKind.wrap .i64 ((p2.length:Int)+1)=(p2.length:Int)+1:=wrap_i64 (by omega) (by omega);unfold Tg;by_cases g1:-1≤d.rC
  ·by_cases g2:d.rC=0
   ·by_cases g3:d.L=[]
    ·have o:jZ cols eu (p2.length:Nat) d=true:=by simp [jZ,g2,g3]
     rw [if_pos o] at h4;refine Ud (J8 ey gZ ai y4 hw fj ck (J3 h g2 g3)) ?_;repeat intro hc
     exact ⟨(p2++[d],r2),by simp,⟨by rw [h2];simp,by simpa using h4⟩,by simp⟩
    ·have g3l:=Zd.2 g3;have o:¬jZ cols eu (p2.length:Nat) d=true:=by simp [jZ,g2,g3]
     rw [if_neg o] at h4;refine Ud (J8 ey gZ ai y4 hw fj ck (J3 h g2 g3)) ?_;repeat intro hc
     simp [xx,lY,←h4]
   ·by_cases g4:(p2.length:Int)<eu
    ·by_cases g5:lp cols d.L=true
     ·have o:jZ cols eu (p2.length:Nat) d=true:=by simp [jZ,g1,g2,g4,g5]
      rw [if_pos o] at h4;refine Ud (J8 ey gZ ai y4 hw fj ck (J5 h g1 g2 g4 g5)) ?_;repeat intro hc
      exact ⟨(p2++[d],r2),by simp,⟨by rw [h2];simp,by simpa using h4⟩,by simp⟩
     ·have CX:lp cols d.L=false:=by simpa using g5
      have o:¬jZ cols eu (p2.length:Nat) d=true:=by simp [jZ,g1,g2,g4,CX]
      rw [if_neg o] at h4;refine Ud (J8 ey gZ ai y4 hw fj ck (J5 h g1 g2 g4 CX)) ?_;repeat intro hc
      simp [xx,lY,←h4]
    ·have o:¬jZ cols eu (p2.length:Nat) d=true:=by simp [jZ,g1,g2,g4]
     rw [if_neg o] at h4;refine Ud (J8 ey gZ ai y4 hw fj ck (J4 h g1 g2 g4)) ?_;repeat intro hc
     simp [xx,lY,←h4]
  ·have o:¬jZ cols eu (p2.length:Nat) d=true:=by simp [jZ,g1]
   rw [if_neg o] at h4;refine Ud (J8 ey gZ ai y4 hw fj ck (J2 h g1)) ?_;repeat intro hc
   simp [xx,lY,←h4]
def slt (ky:Int→Int) (x y:Int):Prop:=ky x<ky y∨(ky x=ky y∧x<y)
def I2 (ky:Int→Int) (l:List Int):Prop:=l.Pairwise (slt ky)
theorem slt.trans {ky:Int→Int} {x y z:Int} (h1:slt ky x y) (h2:slt ky y z):slt ky x z:=by unfold slt at *;omega
theorem slt.irrefl {ky:Int→Int} {x:Int}:¬slt ky x x:=by unfold slt;omega
theorem slt.asymm {ky:Int→Int} {x y:Int} (h:slt ky x y):¬slt ky y x:=by unfold slt at *;omega
theorem slt.le {ky:Int→Int} {x y:Int} (h:slt ky x y):ky x≤ky y:=by unfold slt at h;omega
theorem arv {ky:Int→Int} {x y:Int} (h:ky x<ky y):slt ky x y:=.inl h
theorem aru {ky:Int→Int} {x y:Int} (h:ky x≤ky y) (h2:x<y):slt ky x y:=by unfold slt;omega
inductive Good (ky:Int→Int) (bs:Nat):List Int→List Int→Prop
 |short (xs l:List Int):xs.length≤bs→l.Perm xs→I2 ky l→Good ky bs xs l
 |app (w w' xs l:List Int):w.length=bs→w'.Perm w→I2 ky w'→Good ky bs xs l→Good ky bs (w++xs) (w'++l)
theorem Good.perm {ky:Int→Int} {bs:Nat} {xs l:List Int} (h:Good ky bs xs l):l.Perm xs:=by
 induction h with
 |short _ _ _ h=>exact h
 |app _ _ _ _ _ h _ _ ih=>exact h.append ih
theorem Good.le {ky:Int→Int} {bs:Nat} {xs l:List Int} (h:Good ky bs xs l) (hb:xs.length≤bs) (h0:0<bs):l.Perm xs∧I2 ky l:=by
 cases h with
 |short _ _ h1 h2 h3=>exact ⟨h2,h3⟩
 |app w w' xs l h1 h2 h3 h4=>
  have h5:xs=[]:=List.eq_nil_of_length_eq_zero (by simp at hb;omega);subst h5;have h6:l=[]:=List.perm_nil.1 h4.perm;subst h6;simpa using ⟨h2,h3⟩
def nE (x:Nat):List Int:=if h:x<128 then [(x:Int)] else ((x%128+128:Nat):Int)::nE (x/128)
termination_by x
decreasing_by omega
def eH:Bool→Nat→List Int→Option (Nat×Nat)
 |_,0,_=>none
 |_,_+1,[]=>none
 |fst,f+1,c::r=>
  if 128≤c then match eH false f r with
   |some (y,k)=>some ((c%128).toNat+128*y,k+1)
   |none=>none
  else if fst=false∧c=0 then none else some (c.toNat,1)
def bI (l:List Int):Prop:=∀c∈l,0≤c∧c≤255
theorem Bh {x:Nat} (h:x<128):nE x=[(x:Int)]:=by rw [nE];simp [h]
theorem Bg {x:Nat} (h:¬x<128):nE x=((x%128+128:Nat):Int)::nE (x/128):=by rw [nE];simp [h]
theorem am8:∀x:Nat,bI (nE x):=by
 intro x;induction x using Nat.strongRecOn with
 |_ x ih=>
  by_cases h:x<128
  ·rw [Bh h];intro c hc;simp at hc;omega
  ·rw [Bg h];intro c hc;rcases Zo.1 hc with rfl|hc
   ·omega
   ·exact ih (x/128) (by omega) c hc
theorem IK (x:Nat):1≤(nE x).length:=by
 by_cases h:x<128
 ·rw [Bh h];simp
 ·rw [Bg h];simp
theorem am7:∀(n x:Nat),x<128^n→0<n→(nE x).length≤n:=by
 intro n;induction n with
 |zero=>intro x _ h;omega
 |succ n ih=>
  intro x h _;by_cases hx:x<128
  ·rw [Bh hx];simp
  ·rw [Bg hx]
   have hn:0<n:=by
    rcases Nat.eq_zero_or_pos n with h0|h0
    ·subst h0;simp at h;omega
    ·exact h0
   have:=ih (x/128) (by rw [zt] at h;omega) hn;simp only [za];omega
theorem akO {f:Nat}:∀{l:List Int} {y k:Nat},bI l→eH false f l=some (y,k)→0<y:=by
 induction f with
 |zero=>intro l y k _ h;simp [eH] at h
 |succ f ih=>
  intro l y k hl h;cases l with
  |nil=>simp [eH] at h
  |cons c r=>
   simp only [eH] at h;split at h
   ·split at h
    ·rename_i y' k' h1;simp at h;have:=ih (fun c hc=>hl c (by simp [hc])) h1;omega
    ·cases h
   ·rename_i hc;have fT:=hl c (by simp);split at h
    ·cases h
    ·rename_i h2;simp at h;simp at h2;omega
theorem akN:∀{f:Nat} {l:List Int} {fst:Bool} {y k:Nat},bI l→eH fst f l=some (y,k)→∃r,l=nE y++r∧(nE y).length=k:=by
 intro f;induction f with
 |zero=>intro l fst y k _ h;simp [eH] at h
 |succ f ih=>
  intro l fst y k hl h;cases l with
  |nil=>simp [eH] at h
  |cons c r=>
   have fT:=hl c (by simp);simp only [eH] at h;split at h
   ·rename_i hc;split at h
    ·rename_i y' k' h1;simp at h;obtain ⟨rfl,rfl⟩:=h;have hr:bI r:=fun c hc=>hl c (by simp [hc])
     have hp:=akO hr h1;obtain ⟨r',h2,h3⟩:=ih hr h1;have hb:¬((c%128).toNat+128*y'<128):=by omega
     rw [Bg hb,show ((c%128).toNat+128*y')/128=y' by omega];refine ⟨r',?_,by simp [h3]⟩;rw [h2,zZ];congr 1;omega
    ·cases h
   ·split at h
    ·cases h
    ·simp at h;obtain ⟨rfl,rfl⟩:=h;rw [Bh (by omega)];exact ⟨r,by simp;omega,rfl⟩
theorem akP:∀(f y:Nat) (fst:Bool) (r:List Int),y<128^f→(fst=false→0<y)→eH fst f (nE y++r)=if f=0 then none else some (y,(nE y).length):=by
 intro f;induction f with
 |zero=>intro y fst r _ _;simp [eH]
 |succ f ih=>
  intro y fst r h hf;by_cases hy:y<128
  ·rw [Bh hy];simp only [zZ,List.nil_append,eH];rw [if_neg (by omega),if_neg (fun e=>by have:=hf e.1;omega)];simp
  ·rw [Bg hy];simp only [zZ,eH];rw [if_pos (by omega),ih (y/128) false r (by rw [zt] at h;omega) (fun _=>by omega)];have FN:f≠0:=fun e=>by subst e;simp at h;omega
   simp only [if_neg FN,za,Nat.add_eq_zero_iff,if_neg (show ¬(f=0∧(1:Nat)=0) by omega)];simp only [zK,zW,and_true,reduceCtorEq];simp;omega
def pf (n:Int):Int:=if -1000000000≤n∧n≤1000000000 then (if n<0 then -2*n-1 else 2*n) else 0
def mB (n:Int):Int:=if 0≤n∧n≤2000000000 then (if n.tmod 2=1 then (-(n+1)).tdiv 2 else n.tdiv 2) else 0
theorem adx {x:Int} (h:0≤x∧x≤2000000000) (h2:x%2=0):mB x=x/2:=by
 unfold mB;rw [if_pos h,zm h.1,if_neg (by omega),zf h.1]
theorem ady {x:Int} (h:0≤x∧x≤2000000000) (h2:x%2=1):mB x=-((x+1)/2):=by
 unfold mB;rw [if_pos h,zm h.1,if_pos h2,Ze,zf (by omega)]
theorem IP {n:Int} (h:-1000000000≤n∧n≤1000000000):mB (pf n)=n∧0≤pf n∧pf n≤2000000000:=by
 unfold pf;rw [if_pos h];by_cases h0:n<0
 ·rw [if_pos h0,ady (by omega) (by omega)];omega
 ·rw [if_neg h0,adx (by omega) (by omega)];omega
theorem an' {x:Int} (h:0≤x∧x≤2000000000):pf (mB x)=x∧-1000000000≤mB x∧mB x≤1000000000:=by
 rcases (by omega:x%2=0∨x%2=1) with h0|h0
 ·rw [adx h h0];unfold pf;rw [if_pos (by omega),if_neg (by omega)];omega
 ·rw [ady h h0];unfold pf;rw [if_pos (by omega),if_pos (by omega)];omega
def cI (n:Int):List Int:=if -1000000000≤n∧n≤1000000000 then nE (pf n).toNat else []
def yr (l:List Int):Option (Int×Nat):=match eH true 5 l with
 |some (y,k)=>if y≤2000000000 then some (mB y,k) else none
 |none=>none
theorem w_:bI (cI n):=by
 unfold cI;split
 ·exact am8 _
 ·intro c hc;simp at hc
theorem ma:(cI n).length≤5:=by
 unfold cI;split
 ·rename_i h;have:=IP h;exact am7 5 _ (by omega) (by omega)
 ·simp
theorem afa {l:List Int} {n:Int} {k:Nat} (hl:bI l) (h:yr l=some (n,k)):(-1000000000≤n∧n≤1000000000)∧∃r,l=cI n++r∧(cI n).length=k:=by
 unfold yr at h;split at h
 ·rename_i y k' h1;split at h
  ·rename_i hy;simp at h;obtain ⟨rfl,rfl⟩:=h;have hz:=an' (x:=(y:Int)) (by omega);obtain ⟨r,h2,h3⟩:=akN hl h1;refine ⟨hz.2,r,?_⟩;unfold cI;rw [if_pos hz.2,hz.1];simpa using ⟨h2,h3⟩
  ·cases h
 ·cases h
theorem afb {n:Int} (h:-1000000000≤n∧n≤1000000000) (r:List Int):yr (cI n++r)=some (n,(cI n).length):=by
 have hz:=IP h;unfold yr cI;rw [if_pos h,akP 5 _ true r (by omega) (by simp)];simp only [if_neg (show ¬(5:Nat)=0 by omega)];rw [if_pos (by omega)];simp only [zK,zW,and_true];rw [Int.toNat_of_nonneg hz.2.1];exact hz.1
@[simp] theorem asl:Gw TT 562 [vi n]=some (vi (pf n),[]):=by
 refine Ga Ep Qk ?_;unfold Qk;by_cases q1:jK n=true
 ·have q2:=q1;simp only [jK,ze,decide_eq_true_eq] at q2;have w1:=Wi (-2*n);have w2:=Wi (-2*n-1);have w3:=Wi (2*n);refine Uw (J4 q1 w1 w2 w3) ?_ ?_;all_goals repeat intro hc
  all_goals first|(simp [Ep,pf,q2, *];done)|(simp [Ep,pf];omega)
 ·have q2:=q1;simp only [jK,ze,decide_eq_true_eq] at q2;simp only [zO] at q1;refine Uw q1 ?_;repeat intro hc
  simp [Ep,pf,q2]
@[simp] theorem asD:Gw TT 590 [vi n]=some (vi (pf n),[]):=by
 refine Ga Et QR ?_;unfold QR;by_cases q1:jK n=true
 ·have q2:=q1;simp only [jK,ze,decide_eq_true_eq] at q2;have w1:=Wi (-2*n);have w2:=Wi (-2*n-1);have w3:=Wi (2*n);refine Uw (J4 q1 w1 w2 w3) ?_ ?_;all_goals repeat intro hc
  all_goals first|(simp [Et,pf,q2, *];done)|(simp [Et,pf];omega)
 ·have q2:=q1;simp only [jK,ze,decide_eq_true_eq] at q2;simp only [zO] at q1;refine Uw q1 ?_;repeat intro hc
  simp [Et,pf,q2]
@[simp] theorem ar0:Gw TT 521 [vi n]=some (vi (mB n),[]):=by
 refine Ga Ek PD ?_;unfold PD;by_cases q2:0≤n∧n≤2000000000
 ·have w1:=Wi (n+1);have w2:=Wi (-(n+1));have w4:IntKind.wrap .i64 (0-(n+1))=-(n+1):=by rw [show (0-(n+1):Int)=-(n+1) by omega];exact w2
  have w5:IntKind.wrap .i64 (n.tdiv 2)=n.tdiv 2:=by rw [zf q2.1];exact wrap_i64 (by omega) (by omega)
  have w6:IntKind.wrap .i64 ((-(n+1)).tdiv 2)=(-(n+1)).tdiv 2:=by rw [Ze,zf (by omega)];exact wrap_i64 (by omega) (by omega)
  refine Uw (J7 q2.1 q2.2 w1 w2 w4 w5 w6) ?_ ?_;all_goals repeat intro hc
  all_goals first|(simp [Ek,mB,q2, *];done)|(simp_all [Ek,mB];done)
 ·refine Uw Oo ?_;repeat intro hc
  simp [Ek,mB,q2]
@[simp] theorem arX:Gw TT 513 [vi n]=some (vi (mB n),[]):=by
 refine Ga Ej Pt ?_;unfold Pt;by_cases q2:0≤n∧n≤2000000000
 ·have w1:=Wi (n+1);have w2:=Wi (-(n+1));have w4:IntKind.wrap .i64 (0-(n+1))=-(n+1):=by rw [show (0-(n+1):Int)=-(n+1) by omega];exact w2
  have w5:IntKind.wrap .i64 (n.tdiv 2)=n.tdiv 2:=by rw [zf q2.1];exact wrap_i64 (by omega) (by omega)
  have w6:IntKind.wrap .i64 ((-(n+1)).tdiv 2)=(-(n+1)).tdiv 2:=by rw [Ze,zf (by omega)];exact wrap_i64 (by omega) (by omega)
  refine Uw (J7 q2.1 q2.2 w1 w2 w4 w5 w6) ?_ ?_;all_goals repeat intro hc
  all_goals first|(simp [Ej,mB,q2, *];done)|(simp_all [Ej,mB];done)
 ·refine Uw Oo ?_;repeat intro hc
  simp [Ej,mB,q2]
theorem Fc (x:Nat):IntKind.wrap .i64 (((x:Int).tmod 128)+128)=((x%128+128:Nat):Int):=by
 rw [zm (by omega),wrap_i64 (by omega) (by omega)];omega
@[simp] theorem UY (h:b.length≤1048576):Gw TT 531 [.one (rl k0 1 (b.map eb)),vi n]=some (.one (.own (.sl 1 ((b++cI n).map eb))),[]):=by
 refine Ga G3 PN ?_;unfold PN;have qY:(0+b.length)*1≤70368744177664:=by omega
 have jt:b.length≤70368744177664:=by omega
 by_cases q1:jK n=true
 ·have q2:=q1;simp only [jK,ze,decide_eq_true_eq] at q2;obtain ⟨z1,z2,z3⟩:=IP q2;obtain ⟨z,hz⟩:=zg z2;have BH:cI n=nE z:=by simp [cI,q2,hz]
  have hlen:=ma n;refine Ua (J5 q1 h qY jt hz) ?_;refine ba (σ:=List Int×Nat) (fun s=>[(5,AV.pl 5 0 [],some (Rt.aX [C.own (D.sl 1 ((s.1).map eb))])),(6,vn (s.2:Nat),none)]) (fun s=>s.1++nE s.2=b++cI n∧s.2≤z) (fun s=>s.2) (b,z) (by simp) ⟨by rw [BH],zD _⟩ ?_;rintro ⟨a,x⟩ ⟨y1,y2⟩;simp only at y1 y2;have C5:=congrArg zN y1;simp only [zb] at C5;have hp:=IK x;have lB:(a.length+1)*1≤70368744177664:=by omega
  have qy:a.length+1≤70368744177664:=by omega
  by_cases c1:x<128
  ·have c2:¬(128:Int)≤x:=by omega
   have c3:¬(127:Int)<x:=by omega
   have hu:IntKind.wrap .u8 (x:Int)=x:=wrap_u8 (by omega) (by omega);rw [Bh c1] at y1;unfold TK;refine Ua (J5 c2 c3 hu lB qy) ?_;simp [G3,←y1]
  ·have c2:(128:Int)≤x:=by omega
   have c3:(127:Int)<x:=by omega
   have hu:IntKind.wrap .u8 ((x%128+128:Nat):Int)=((x%128+128:Nat):Int):=wrap_u8 (by omega) (by omega);have hv:IntKind.wrap .i64 ((x:Int).tdiv 128)=((x/128:Nat):Int):=by rw [zf (by omega),wrap_i64 (by omega) (by omega)];omega
   have hw:IntKind.wrap .i64 (128+(x:Int).tmod 128)=((x%128+128:Nat):Int):=by rw [Int.add_comm];exact Fc x
   rw [Bg c1] at y1;have ai:x/128<x:=by omega
   have nY:IntKind.wrap .u8 ((x:Int)%128+128)=(x:Int)%128+128:=wrap_u8 (by omega) (by omega);have fO:=Wi ((x:Int)/128);unfold TK;refine Ua (J8 c2 c3 @Fc hw hu hv lB qy) ?_;exact ⟨(a++[((x%128+128:Nat):Int)],x/128),by simp [nY,fO],⟨by rw [zY];exact y1,by omega⟩,ai⟩
 ·have q2:=q1;simp only [jK,ze,decide_eq_true_eq] at q2;simp only [zO] at q1;refine Ua (J4 q1 h qY jt) ?_;simp [G3,cI,q2]
@[simp] theorem amv (h:b.length≤1048576):Gw TT 566 [.one (rl k0 1 (b.map eb)),vi n]=some (.one (.own (.sl 1 ((b++cI n).map eb))),[]):=by
 refine Ga Hg Qm ?_;unfold Qm;have qY:(0+b.length)*1≤70368744177664:=by omega
 have jt:b.length≤70368744177664:=by omega
 by_cases q1:jK n=true
 ·have q2:=q1;simp only [jK,ze,decide_eq_true_eq] at q2;obtain ⟨z1,z2,z3⟩:=IP q2;obtain ⟨z,hz⟩:=zg z2;have BH:cI n=nE z:=by simp [cI,q2,hz]
  have hlen:=ma n;refine Ua (J5 q1 h qY jt hz) ?_;refine ba (σ:=List Int×Nat) (fun s=>[(5,AV.pl 5 0 [],some (Rt.aX [C.own (D.sl 1 ((s.1).map eb))])),(6,vn (s.2:Nat),none)]) (fun s=>s.1++nE s.2=b++cI n∧s.2≤z) (fun s=>s.2) (b,z) (by simp) ⟨by rw [BH],zD _⟩ ?_;rintro ⟨a,x⟩ ⟨y1,y2⟩;simp only at y1 y2;have C5:=congrArg zN y1;simp only [zb] at C5;have hp:=IK x;have lB:(a.length+1)*1≤70368744177664:=by omega
  have qy:a.length+1≤70368744177664:=by omega
  by_cases c1:x<128
  ·have c2:¬(128:Int)≤x:=by omega
   have c3:¬(127:Int)<x:=by omega
   have hu:IntKind.wrap .u8 (x:Int)=x:=wrap_u8 (by omega) (by omega);rw [Bh c1] at y1;unfold T0;refine Ua (J5 c2 c3 hu lB qy) ?_;simp [Hg,←y1]
  ·have c2:(128:Int)≤x:=by omega
   have c3:(127:Int)<x:=by omega
   have hu:IntKind.wrap .u8 ((x%128+128:Nat):Int)=((x%128+128:Nat):Int):=wrap_u8 (by omega) (by omega);have hv:IntKind.wrap .i64 ((x:Int).tdiv 128)=((x/128:Nat):Int):=by rw [zf (by omega),wrap_i64 (by omega) (by omega)];omega
   have hw:IntKind.wrap .i64 (128+(x:Int).tmod 128)=((x%128+128:Nat):Int):=by rw [Int.add_comm];exact Fc x
   rw [Bg c1] at y1;have ai:x/128<x:=by omega
   have nY:IntKind.wrap .u8 ((x:Int)%128+128)=(x:Int)%128+128:=wrap_u8 (by omega) (by omega);have fO:=Wi ((x:Int)/128);unfold T0;refine Ua (J8 c2 c3 @Fc hw hu hv lB qy) ?_;exact ⟨(a++[((x%128+128:Nat):Int)],x/128),by simp [nY,fO],⟨by rw [zY];exact y1,by omega⟩,ai⟩
 ·have q2:=q1;simp only [jK,ze,decide_eq_true_eq] at q2;simp only [zO] at q1;refine Ua (J4 q1 h qY jt) ?_;simp [Hg,cI,q2]
def gN (b:List Int) (u:Int):Option (Int×Int):=if 0≤u∧u<(b.length:Int) then (match yr (b.drop u.toNat) with
 |some (n,k)=>some (n,u+(k:Int))
 |none=>none) else none
def gV (r:Option (Int×Int)):V:=match r with
 |some (n,t)=>.cf [vi n,vi t,vb true]
 |none=>.cf [vi 0,vi 0,vb false]
@[simp] theorem aoZ (n t:Int):gV (some (n,t))=.cf [vi n,vi t,vb true]:=rfl
@[simp] theorem aoY:gV none=.cf [vi 0,vi 0,vb false]:=rfl
def qF (i x:Nat) (r:Option (Nat×Nat)):Option (Nat×Nat):=match r with
 |some (y,k)=>some (x+128^i*y,i+k)
 |none=>none
def xa (r:Option (Nat×Nat)):Option (Int×Nat):=match r with
 |some (y,k)=>if y≤2000000000 then some (mB y,k) else none
 |none=>none
theorem WY (l:List Int):yr l=xa (eH true 5 l):=by
 unfold yr xa;rfl
@[simp] theorem arS (h:b.length≤1048576) (hb:bI b):Gw TT 495 [.one (rl k0 1 (b.map eb)),vi u]=some (gV (gN b u),[]):=by
 refine Ga uU Pl ?_;unfold Pl;by_cases q1:0≤u∧u<(b.length:Int)
 ·obtain ⟨m,rfl⟩:=zg q1.1;have q3:m<b.length:=by omega
  have q4:(m:Int)≤(b.length:Int):=by omega
  have q5:¬(b.length:Int)≤(m:Int):=by omega
  refine Ud (J3 q3 q4 q5) ?_;repeat intro hc
  refine ba (σ:=Nat×Nat) (fun s=>[(0,AV.v k0 (D.sl 1 (b.map eb)),none),(1,vn (m:Nat),none),(7,vn (s.2:Nat),none),(8,vn (s.1:Nat),none)]) (fun s=>s.1≤5∧s.2<128^s.1∧eH true 5 (b.drop m)=qF s.1 s.2 (eH (s.1==0) (5-s.1) (b.drop (m+s.1)))) (fun s=>5-s.1) (0,0) (by simp) ⟨by omega,by simp,by simp [qF];cases eH true 5 (b.drop m)<;>simp⟩ ?_;rintro ⟨i,x⟩ ⟨y1,y2,y3⟩;simp only at y1 y2 y3
  have fa:gN b (m:Int)=(match xa (eH true 5 (b.drop m)) with|some (n,k)=>some (n,(m:Int)+(k:Int))|none=>none):=by
   (simp [gN,q3,WY];try rfl)
  by_cases e5:i=5
  ·subst e5;have uO:eH true 5 (b.drop m)=none:=by rw [y3];simp [eH,qF]
   have fb:gN b (m:Int)=none:=by rw [fa,uO];try rfl
   unfold uX;refine Ud fb ?_;simp [uU,fb]
  ·cases hr:b.drop (m+i) with
   |nil=>
    have fc:=congrArg zN hr;simp only [zP,zi] at fc
    have uO:eH true 5 (b.drop m)=none:=by
     rw [y3,hr];have:5-i=(4-i)+1:=by omega
     rw [this];simp [eH,qF]
    have fb:gN b (m:Int)=none:=by rw [fa,uO];try rfl
    have w1:IntKind.wrap .i64 ((m:Int)+(i:Int))=(m:Int)+(i:Int):=wrap_i64 (by omega) (by omega);have w2:IntKind.wrap .i64 ((b.length:Int)-(m:Int))=(b.length:Int)-(m:Int):=wrap_i64 (by omega) (by omega);have c1:¬(m:Int)+(i:Int)<(b.length:Int):=by omega
    have c2:¬(i:Int)<(b.length:Int)-(m:Int):=by omega
    unfold uX;refine Ud (J5 fb w1 w2 c1 c2) ?_;repeat intro hc
    simp [uU,fb]
   |cons c r=>
    have fc:=congrArg zN hr;simp only [zP,za] at fc;have je:m+i<b.length:=by omega
    have eX:b[m+i]?=some c:=by
     have:=congrArg (fun l=>l[0]?) hr;simpa using this
    have jX:b[m+i]=c:=(zj.1 eX).2;have fT:=hb c (zC eX);obtain ⟨cn,rfl⟩:=zg fT.1
    have hdr:b.drop (m+(i+1))=r:=by
     rw [←zX,←Zk,hr];simp
    have Dj:eH (i==0) (5-i) (b.drop (m+i))=eH (i==0) ((4-i)+1) ((cn:Int)::r):=by rw [hr,show 5-i=(4-i)+1 by omega]
    have w1:IntKind.wrap .i64 ((m:Int)+(i:Int))=(m:Int)+(i:Int):=wrap_i64 (by omega) (by omega);have w2:IntKind.wrap .i64 ((b.length:Int)-(m:Int))=(b.length:Int)-(m:Int):=wrap_i64 (by omega) (by omega);have w3:IntKind.wrap .i64 ((m:Int)+(i:Int)+1)=(m:Int)+(i:Int)+1:=wrap_i64 (by omega) (by omega);have w4:IntKind.wrap .i64 (cn:Int)=(cn:Int):=wrap_i64 (by omega) (by omega);have w5:IntKind.wrap .i64 ((i:Int)+1)=(i:Int)+1:=wrap_i64 (by omega) (by omega);have c1:(m:Int)+(i:Int)<(b.length:Int):=by omega
    have c2:(i:Int)<(b.length:Int)-(m:Int):=by omega
    have c3:(i:Int)<5:=by omega
    have c4:((m:Int)+(i:Int)).toNat=m+i:=by omega
    have c5:(0:Int)≤(m:Int)+(i:Int):=by omega
    have qx:(128:Nat)^i=2^(7*i):=by rw [Nat.pow_mul]
    have gA:(2:Nat)^(7*i)≤2^28:=zn (by omega) (by omega);have ahy:1≤(2:Nat)^(7*i):=Zf (by simp);obtain ⟨t,ht⟩:∃t:Nat,t=cn%128*2^(7*i):=⟨_,rfl⟩;have Dy:t≤127*2^28:=by rw [ht];exact zk (by omega) gA
    have x7:IntKind.wrap .i64 (7*(i:Int))=7*(i:Int):=wrap_i64 (by omega) (by omega);have x0:¬(7*(i:Int)<0):=by omega
    have x1:(7*(i:Int)).toNat=7*i:=by omega
    have x2:min (7*i) IntKind.i64.bits=7*i:=by simp [IntKind.bits];omega
    have xt:(cn:Int).tmod 128*2^(7*i)=(t:Int):=by rw [zm (by omega),ht];simp
    have x3:IntKind.wrap .i64 ((cn:Int).tmod 128*2^(7*i))=(t:Int):=by rw [xt];exact wrap_i64 (by omega) (by omega)
    have x4:IntKind.wrap .i64 ((x:Int)+(t:Int))=(x:Int)+(t:Int):=wrap_i64 (by omega) (by omega);have x6:(2:Nat)^(7*(i+1))=128*2^(7*i):=by rw [show 7*(i+1)=7*i+7 by omega,Nat.pow_add];omega
    have d_:x+t<128^(i+1):=by
     have h1:t≤127*2^(7*i):=by rw [ht];exact zk (by omega) (zD _)
     rw [zt,qx];rw [qx] at y2;omega
    by_cases c6:128≤cn
    ·have c7:(128:Int)≤(cn:Int):=by omega
     have c8:(127:Int)<(cn:Int):=by omega
     have KY:eH true 5 (b.drop m)=qF (i+1) (x+t) (eH (i+1==0) (5-(i+1)) (b.drop (m+(i+1)))):=by
      rw [y3,Dj,hdr,show 5-(i+1)=4-i by omega];simp only [eH];rw [if_pos c7,show (i+1==0)=false from by simp];cases eH false (4-i) r with
      |none=>rfl
      |some yk=>
       obtain ⟨y,k⟩:=yk;simp only [qF,zK,zW];refine ⟨?_,by omega⟩;rw [show ((cn:Int)%128).toNat=cn%128 by omega,ht,qx,zt,Nat.mul_add,qx,zH (2^(7*i)) (cn%128),Zp,zX]
     unfold uX;refine Ud (J8 eX jX je w1 w2 w3 w4 (J8 w5 c1 c2 c3 c4 c5 x7 (J7 x0 x1 x2 x3 x4 c7 c8))) ?_;exact ⟨(i+1,x+t),by simp,⟨by omega,d_,KY⟩,by simp only;omega⟩
    ·have c7:¬(128:Int)≤(cn:Int):=by omega
     have c8:¬(127:Int)<(cn:Int):=by omega
     have tM:t=128^i*cn:=by rw [ht,qx,zQ (by omega),zH]
     have yR:eH true 5 (b.drop m)=if 0<i∧cn=0 then none else some (x+t,i+1):=by
      rw [y3,Dj];simp only [eH];rw [if_neg c7];by_cases z0:0<i∧cn=0
      ·rw [if_pos z0,if_pos ⟨by simp;omega,by omega⟩];try rfl
      ·rw [if_neg z0,if_neg (fun e=>z0 ⟨by have:=e.1;simp at this;omega,by have:=e.2;omega⟩)];simp [qF,tM]
     by_cases z0:0<i∧cn=0
     ·have fb:gN b (m:Int)=none:=by rw [fa,yR,if_pos z0];try rfl
      obtain ⟨z1,z2⟩:=z0;have z3:(0:Int)<(i:Int):=by omega
      unfold uX;refine Ud (J8 eX jX je w1 w2 w3 w4 (J8 w5 c1 c2 c3 c4 c5 x7 (J8 x0 x1 x2 x3 x4 c7 c8 (J3 z1 z2 fb)))) ?_;simp [uU,fb]
     ·by_cases z5:x+t≤2000000000
      ·have fb:gN b (m:Int)=some (mB ((x:Int)+(t:Int)),(m:Int)+(i:Int)+1):=by
        rw [fa,yR,if_neg z0];simp [xa,z5];omega
       have z6:¬(2000000000:Int)<(x:Int)+(t:Int):=by omega
       have z7:0<i→cn≠0:=fun e1 e2=>z0 ⟨e1,e2⟩
       by_cases z8:0<i
       ·have z9:=z7 z8;unfold uX;refine Ud (J8 eX jX je w1 w2 w3 w4 (J8 w5 c1 c2 c3 c4 c5 x7 (J8 x0 x1 x2 x3 x4 c7 c8 (J4 z6 z8 z9 fb)))) ?_;simp [uU,fb]
       ·unfold uX;refine Ud (J8 eX jX je w1 w2 w3 w4 (J8 w5 c1 c2 c3 c4 c5 x7 (J8 x0 x1 x2 x3 x4 c7 c8 (J3 z6 z8 fb)))) ?_;simp [uU,fb]
      ·have fb:gN b (m:Int)=none:=by
        rw [fa,yR,if_neg z0];simp [xa,z5]
       have z6:(2000000000:Int)<(x:Int)+(t:Int):=by omega
       unfold uX;refine Ud (J8 eX jX je w1 w2 w3 w4 (J8 w5 c1 c2 c3 c4 c5 x7 (J8 x0 x1 x2 x3 x4 c7 c8 (J2 z6 fb)))) ?_ ?_;all_goals repeat intro hc
       all_goals simp [uU,fb]
 ·have fb:gN b u=none:=by simp [gN];omega
  by_cases ee:u=(b.length:Int)
  ·subst ee
   repeat' (first
    |with_reducible (first|refine wp_seq ?_|refine uq ?_|refine wp_skip ?_|refine wp_exit ?_|refine wp_ret ?_|refine ud ?_|refine ue ?_|refine uc ?_|refine sP ?_|refine sQ ?_|refine sO ?_|refine tQ ?_|refine tP ?_|refine tR ?_|refine tg ?_|refine tf ?_|refine tc ?_|refine ta ?_|refine te ?_|refine td ?_)
    |(with_reducible refine wp_loop (c:=uX) ?_
      conv=>arg 2;unfold uX)
    |(with_reducible refine ur fun K hK=>?_
      simp[fb]
      repeat' (with_reducible first|refine hK _ ?_|(refine fq ?_ ?_<;>(intro hc;(try rw [zd] at hc);first|(exfalso;omega)|(try simp [hc,fb]))))
      all_goals (clear hK;clear K))
    |(with_reducible refine u' ?_
      refine ⟨_,rfl,?_,?_⟩<;>(intro hc;(try simp at hc);(all_goals first|(exfalso;omega)|skip))))
   simp [uU,fb]
  ·refine Ud fb ?_ ?_;all_goals repeat intro hc
   all_goals simp [uU,fb]
@[simp] theorem arQ (h:b.length≤1048576) (hb:bI b):Gw TT 491 [.one (rl k0 1 (b.map eb)),vi u]=some (gV (gN b u),[]):=by
 refine Ga uT Pg ?_;unfold Pg;by_cases q1:0≤u∧u<(b.length:Int)
 ·obtain ⟨m,rfl⟩:=zg q1.1;have q3:m<b.length:=by omega
  have q4:(m:Int)≤(b.length:Int):=by omega
  have q5:¬(b.length:Int)≤(m:Int):=by omega
  refine Ud (J3 q3 q4 q5) ?_;refine ba (σ:=Nat×Nat) (fun s=>[(0,AV.v k0 (D.sl 1 (b.map eb)),none),(1,vn (m:Nat),none),(7,vn (s.2:Nat),none),(8,vn (s.1:Nat),none)]) (fun s=>s.1≤5∧s.2<128^s.1∧eH true 5 (b.drop m)=qF s.1 s.2 (eH (s.1==0) (5-s.1) (b.drop (m+s.1)))) (fun s=>5-s.1) (0,0) (by simp) ⟨by omega,by simp,by simp [qF];cases eH true 5 (b.drop m)<;>simp⟩ ?_;rintro ⟨i,x⟩ ⟨y1,y2,y3⟩;simp only at y1 y2 y3
  have fa:gN b (m:Int)=(match xa (eH true 5 (b.drop m)) with|some (n,k)=>some (n,(m:Int)+(k:Int))|none=>none):=by
   (simp [gN,q3,WY];try rfl)
  by_cases e5:i=5
  ·subst e5;have uO:eH true 5 (b.drop m)=none:=by rw [y3];simp [eH,qF]
   have fb:gN b (m:Int)=none:=by rw [fa,uO];try rfl
   unfold uW;refine Ud fb ?_;simp [uT,fb]
  ·cases hr:b.drop (m+i) with
   |nil=>
    have fc:=congrArg zN hr;simp only [zP,zi] at fc
    have uO:eH true 5 (b.drop m)=none:=by
     rw [y3,hr];have:5-i=(4-i)+1:=by omega
     rw [this];simp [eH,qF]
    have fb:gN b (m:Int)=none:=by rw [fa,uO];try rfl
    have w1:IntKind.wrap .i64 ((m:Int)+(i:Int))=(m:Int)+(i:Int):=wrap_i64 (by omega) (by omega);have w2:IntKind.wrap .i64 ((b.length:Int)-(m:Int))=(b.length:Int)-(m:Int):=wrap_i64 (by omega) (by omega);have c1:¬(m:Int)+(i:Int)<(b.length:Int):=by omega
    have c2:¬(i:Int)<(b.length:Int)-(m:Int):=by omega
    unfold uW;refine Ud (J5 fb w1 w2 c1 c2) ?_;repeat intro hc
    simp [uT,fb]
   |cons c r=>
    have fc:=congrArg zN hr;simp only [zP,za] at fc;have je:m+i<b.length:=by omega
    have eX:b[m+i]?=some c:=by
     have:=congrArg (fun l=>l[0]?) hr;simpa using this
    have jX:b[m+i]=c:=(zj.1 eX).2;have fT:=hb c (zC eX);obtain ⟨cn,rfl⟩:=zg fT.1
    have hdr:b.drop (m+(i+1))=r:=by
     rw [←zX,←Zk,hr];simp
    have Dj:eH (i==0) (5-i) (b.drop (m+i))=eH (i==0) ((4-i)+1) ((cn:Int)::r):=by rw [hr,show 5-i=(4-i)+1 by omega]
    have w1:IntKind.wrap .i64 ((m:Int)+(i:Int))=(m:Int)+(i:Int):=wrap_i64 (by omega) (by omega);have w2:IntKind.wrap .i64 ((b.length:Int)-(m:Int))=(b.length:Int)-(m:Int):=wrap_i64 (by omega) (by omega);have w3:IntKind.wrap .i64 ((m:Int)+(i:Int)+1)=(m:Int)+(i:Int)+1:=wrap_i64 (by omega) (by omega);have w4:IntKind.wrap .i64 (cn:Int)=(cn:Int):=wrap_i64 (by omega) (by omega);have w5:IntKind.wrap .i64 ((i:Int)+1)=(i:Int)+1:=wrap_i64 (by omega) (by omega);have c1:(m:Int)+(i:Int)<(b.length:Int):=by omega
    have c2:(i:Int)<(b.length:Int)-(m:Int):=by omega
    have c3:(i:Int)<5:=by omega
    have c4:((m:Int)+(i:Int)).toNat=m+i:=by omega
    have c5:(0:Int)≤(m:Int)+(i:Int):=by omega
    have qx:(128:Nat)^i=2^(7*i):=by rw [Nat.pow_mul]
    have gA:(2:Nat)^(7*i)≤2^28:=zn (by omega) (by omega);have ahy:1≤(2:Nat)^(7*i):=Zf (by simp);obtain ⟨t,ht⟩:∃t:Nat,t=cn%128*2^(7*i):=⟨_,rfl⟩;have Dy:t≤127*2^28:=by rw [ht];exact zk (by omega) gA
    have x7:IntKind.wrap .i64 (7*(i:Int))=7*(i:Int):=wrap_i64 (by omega) (by omega);have x0:¬(7*(i:Int)<0):=by omega
    have x1:(7*(i:Int)).toNat=7*i:=by omega
    have x2:min (7*i) IntKind.i64.bits=7*i:=by simp [IntKind.bits];omega
    have xt:(cn:Int).tmod 128*2^(7*i)=(t:Int):=by rw [zm (by omega),ht];simp
    have x3:IntKind.wrap .i64 ((cn:Int).tmod 128*2^(7*i))=(t:Int):=by rw [xt];exact wrap_i64 (by omega) (by omega)
    have x4:IntKind.wrap .i64 ((x:Int)+(t:Int))=(x:Int)+(t:Int):=wrap_i64 (by omega) (by omega);have x6:(2:Nat)^(7*(i+1))=128*2^(7*i):=by rw [show 7*(i+1)=7*i+7 by omega,Nat.pow_add];omega
    have d_:x+t<128^(i+1):=by
     have h1:t≤127*2^(7*i):=by rw [ht];exact zk (by omega) (zD _)
     rw [zt,qx];rw [qx] at y2;omega
    have a0:(2:Nat)^IntKind.i64.bits=18446744073709551616:=by simp [IntKind.bits]
    have a1:x%2^IntKind.i64.bits=x:=by rw [a0];exact zQ (by rw [qx] at y2;omega)
    have a2:cn%2^IntKind.i64.bits=cn:=by rw [a0];exact zQ (by omega)
    have a3:127%2^IntKind.i64.bits=127:=by rw [a0]
    have a4:cn &&& 127=cn%128:=by rw [show (127:Nat)=2^7-1 by rfl,Nat.and_two_pow_sub_one_eq_mod]
    have a5:IntKind.wrap .i64 ((cn:Int)%128)=(cn:Int)%128:=wrap_i64 (by omega) (by omega);have a6:IntKind.wrap .i64 ((cn:Int)%128*2^(7*i))=(t:Int):=by rw [←zm (by omega)];exact x3
    have a7:(t:Int)%2^IntKind.i64.bits=(t:Int):=by rw [show (2:Int)^IntKind.i64.bits=18446744073709551616 by simp [IntKind.bits]];omega
    have a9:t%2^IntKind.i64.bits=t:=by rw [a0];omega
    have a8:x ||| t=x+t:=by
     rw [qx] at y2;rw [ht,zH,Nat.or_comm,←Nat.two_pow_add_eq_or_of_lt y2,Nat.add_comm]
    by_cases c6:128≤cn
    ·have c7:(128:Int)≤(cn:Int):=by omega
     have c8:(127:Int)<(cn:Int):=by omega
     have KY:eH true 5 (b.drop m)=qF (i+1) (x+t) (eH (i+1==0) (5-(i+1)) (b.drop (m+(i+1)))):=by
      rw [y3,Dj,hdr,show 5-(i+1)=4-i by omega];simp only [eH];rw [if_pos c7,show (i+1==0)=false from by simp];cases eH false (4-i) r with
      |none=>rfl
      |some yk=>
       obtain ⟨y,k⟩:=yk;simp only [qF,zK,zW];refine ⟨?_,by omega⟩;rw [show ((cn:Int)%128).toNat=cn%128 by omega,ht,qx,zt,Nat.mul_add,qx,zH (2^(7*i)) (cn%128),Zp,zX]
     unfold uW;refine Ud (J8 eX jX je w1 w2 w3 w4 (J8 w5 c1 c2 c3 c4 c5 x7 (J8 x0 x1 x2 x3 x4 c7 c8 (J8 a1 a2 a3 a4 a5 a6 a7 (J2 a8 a9))))) ?_;exact ⟨(i+1,x+t),by simp,⟨by omega,d_,KY⟩,by simp only;omega⟩
    ·have c7:¬(128:Int)≤(cn:Int):=by omega
     have c8:¬(127:Int)<(cn:Int):=by omega
     have tM:t=128^i*cn:=by rw [ht,qx,zQ (by omega),zH]
     have yR:eH true 5 (b.drop m)=if 0<i∧cn=0 then none else some (x+t,i+1):=by
      rw [y3,Dj];simp only [eH];rw [if_neg c7];by_cases z0:0<i∧cn=0
      ·rw [if_pos z0,if_pos ⟨by simp;omega,by omega⟩];try rfl
      ·rw [if_neg z0,if_neg (fun e=>z0 ⟨by have:=e.1;simp at this;omega,by have:=e.2;omega⟩)];simp [qF,tM]
     by_cases z0:0<i∧cn=0
     ·have fb:gN b (m:Int)=none:=by rw [fa,yR,if_pos z0];try rfl
      obtain ⟨z1,z2⟩:=z0;have z3:(0:Int)<(i:Int):=by omega
      unfold uW;refine Ud (J8 eX jX je w1 w2 w3 w4 (J8 w5 c1 c2 c3 c4 c5 x7 (J8 x0 x1 x2 x3 x4 c7 c8 (J8 z1 z2 fb a1 a2 a3 a4 (J5 a5 a6 a7 a8 a9))))) ?_ ?_;all_goals repeat intro hc
      all_goals simp [uT,fb]
     ·by_cases z5:x+t≤2000000000
      ·have fb:gN b (m:Int)=some (mB ((x:Int)+(t:Int)),(m:Int)+(i:Int)+1):=by
        rw [fa,yR,if_neg z0];simp [xa,z5];omega
       have z6:¬(2000000000:Int)<(x:Int)+(t:Int):=by omega
       have z7:0<i→cn≠0:=fun e1 e2=>z0 ⟨e1,e2⟩
       by_cases z8:0<i
       ·have z9:=z7 z8;unfold uW;refine Ud (J8 eX jX je w1 w2 w3 w4 (J8 w5 c1 c2 c3 c4 c5 x7 (J8 x0 x1 x2 x3 x4 c7 c8 (J8 z6 z8 z9 fb a1 a2 a3 (J6 a4 a5 a6 a7 a8 a9))))) ?_;simp [uT,fb]
       ·unfold uW;refine Ud (J8 eX jX je w1 w2 w3 w4 (J8 w5 c1 c2 c3 c4 c5 x7 (J8 x0 x1 x2 x3 x4 c7 c8 (J8 z6 z8 fb a1 a2 a3 a4 (J5 a5 a6 a7 a8 a9))))) ?_ ?_;all_goals repeat intro hc
        all_goals simp [uT,fb]
      ·have fb:gN b (m:Int)=none:=by
        rw [fa,yR,if_neg z0];simp [xa,z5]
       have z6:(2000000000:Int)<(x:Int)+(t:Int):=by omega
       unfold uW;refine Ud (J8 eX jX je w1 w2 w3 w4 (J8 w5 c1 c2 c3 c4 c5 x7 (J8 x0 x1 x2 x3 x4 c7 c8 (J8 z6 fb a1 a2 a3 a4 a5 (J4 a6 a7 a8 a9))))) ?_;simp [uT,fb]
 ·have fb:gN b u=none:=by simp [gN];omega
  by_cases ee:u=(b.length:Int)
  ·subst ee
   repeat' (first
    |with_reducible (first|refine wp_seq ?_|refine uq ?_|refine wp_skip ?_|refine wp_exit ?_|refine wp_ret ?_|refine ud ?_|refine ue ?_|refine uc ?_|refine sP ?_|refine sQ ?_|refine sO ?_|refine tQ ?_|refine tP ?_|refine tR ?_|refine tg ?_|refine tf ?_|refine tc ?_|refine ta ?_|refine te ?_|refine td ?_)
    |(with_reducible refine wp_loop (c:=uW) ?_
      conv=>arg 2;unfold uW)
    |(with_reducible refine ur fun K hK=>?_
      simp[fb]
      repeat' (with_reducible first|refine hK _ ?_|(refine fq ?_ ?_<;>(intro hc;(try rw [zd] at hc);first|(exfalso;omega)|(try simp [hc,fb]))))
      all_goals (clear hK;clear K))
    |(with_reducible refine u' ?_
      refine ⟨_,rfl,?_,?_⟩<;>(intro hc;(try simp at hc);(all_goals first|(exfalso;omega)|skip))))
   simp [uT,fb]
  ·refine Ud fb ?_;repeat intro hc
   simp [uT,fb]
def oj (b:List Int):Nat→Int→Option (List Int×Int)
 |0,u=>some ([],u)
 |k+1,u=>match gN b u with
  |some (n,t)=>match oj b k t with
   |some (l,v)=>some (n::l,v)
   |none=>none
  |none=>none
def jq (b:List Int) (u:Int):Option (List Int×Int):=match gN b u with
 |some (k,t)=>if 0≤k∧k≤64 then oj b k.toNat t else none
 |none=>none
def FH (r:Option (List Int×Int)):V:=match r with
 |some (l,t)=>.cf [.one (.own (.sl 1 (l.map ei))),vi t,vb true]
 |none=>.cf [.one (.own (.sl 1 [])),vi 0,vb false]
@[simp] theorem ao4 (l:List Int) (t:Int):FH (some (l,t))=.cf [.one (.own (.sl 1 (l.map ei))),vi t,vb true]:=rfl
@[simp] theorem ao3:FH none=.cf [.one (.own (.sl 1 [])),vi 0,vb false]:=rfl
def kX {α:Type} (a:List α) (r:Option (List α×Int)):Option (List α×Int):=match r with
 |some (l,v)=>some (a++l,v)
 |none=>none
@[simp] theorem ard {α:Type} (a:List α):kX a none=none:=rfl
@[simp] theorem AY {α:Type} (a l:List α) (v:Int):kX a (some (l,v))=some (a++l,v):=rfl
theorem AX {α:Type} (r:Option (List α×Int)):kX [] r=r:=by cases r<;>rfl
theorem abK {b:List Int} {a:List Int} {k:Nat} {u n t:Int} (h:gN b u=some (n,t)):kX a (oj b (k+1) u)=kX (a++[n]) (oj b k t):=by
 simp only [oj,h];cases oj b k t with
 |none=>rfl
 |some x=>simp [kX]
theorem abJ {b:List Int} {a:List Int} {k:Nat} {u:Int} (h:gN b u=none):kX a (oj b (k+1) u)=none:=by
 simp only [oj,h];rfl
@[simp] theorem arR (h:b.length≤1048576) (hb:bI b):Gw TT 494 [.one (rl k0 1 (b.map eb)),vi u]=some (FH (jq b u),[]):=by
 refine Ga Ce Pk ?_;unfold Pk;cases hg:gN b u with
 |none=>
  have fa:jq b u=none:=by simp [jq,hg]
  refine Uw (J4 h hb hg fa) ?_;simp [Ce,fa]
 |some q=>
  obtain ⟨K,t⟩:=q;by_cases q1:0≤K∧K≤64
  ·obtain ⟨m,rfl⟩:=zg q1.1;have q2:(m:Int)≤64:=q1.2;have Db:jq b u=oj b m t:=by simp [jq,hg];intro e;omega
   refine Uw (J4 h hb hg q2) ?_;refine ba (σ:=List Int×(Nat×Int)) (fun s=>[(0,AV.v k0 (D.sl 1 (b.map eb)),none),(1,vn s.2.2,none),(7,vn (m:Nat),none),(9,AV.pl 9 0 [],some (Rt.aX [C.own (D.sl 1 ((s.1).map ei))])),(10,vn (s.1.length:Nat),none)]) (fun s=>s.1.length+s.2.1=m∧jq b u=kX s.1 (oj b s.2.1 s.2.2)) (fun s=>s.2.1) ([],(m,t)) (by simp) ⟨by simp,by rw [AX];exact Db⟩ ?_;rintro ⟨a,⟨i,v⟩⟩ ⟨y1,y2⟩;simp only at y1 y2;have hq:(a.length+1)*8≤70368744177664:=by omega
   cases i with
   |zero=>
    have c1:¬(a.length:Int)<(m:Int):=by omega
    simp only [oj,AY,zr] at y2;unfold H7;refine Uw (J2 c1 y2) ?_;simp [Ce,y2]
   |succ i=>
    have c1:(a.length:Int)<(m:Int):=by omega
    have hw:=Wi ((a.length:Int)+1);cases hv:gN b v with
    |none=>
     rw [abJ hv] at y2;unfold H7;refine Uw (J7 h hb c1 hv hw hq y2) ?_;simp [Ce,y2]
    |some q=>
     obtain ⟨n,t2⟩:=q;rw [abK hv] at y2;unfold H7;refine Uw (J6 h hb c1 hv hw hq) ?_;exact ⟨(a++[n],(i,t2)),by simp,⟨by simp;omega,y2⟩,by simp⟩
  ·have fa:jq b u=none:=by simp [jq,hg,q1]
   refine Uw (J4 h hb hg fa) ?_;repeat intro hc
   simp [Ce,fa]
@[simp] theorem arP (h:b.length≤1048576) (hb:bI b):Gw TT 490 [.one (rl k0 1 (b.map eb)),vi u]=some (FH (jq b u),[]):=by
 refine Ga Cc Pf ?_;unfold Pf;cases hg:gN b u with
 |none=>
  have fa:jq b u=none:=by simp [jq,hg]
  refine Uw (J4 h hb hg fa) ?_;simp [Cc,fa]
 |some q=>
  obtain ⟨K,t⟩:=q;by_cases q1:0≤K∧K≤64
  ·obtain ⟨m,rfl⟩:=zg q1.1;have q2:(m:Int)≤64:=q1.2;have Db:jq b u=oj b m t:=by simp [jq,hg];intro e;omega
   refine Uw (J4 h hb hg q2) ?_;refine ba (σ:=List Int×(Nat×Int)) (fun s=>[(0,AV.v k0 (D.sl 1 (b.map eb)),none),(7,vn (m:Nat),none),(8,vn s.2.2,none),(10,AV.pl 10 0 [],some (Rt.aX [C.own (D.sl 1 ((s.1).map ei))])),(11,vn (s.1.length:Nat),none)]) (fun s=>s.1.length+s.2.1=m∧jq b u=kX s.1 (oj b s.2.1 s.2.2)) (fun s=>s.2.1) ([],(m,t)) (by simp) ⟨by simp,by rw [AX];exact Db⟩ ?_;rintro ⟨a,⟨i,v⟩⟩ ⟨y1,y2⟩;simp only at y1 y2;have hq:(a.length+1)*8≤70368744177664:=by omega
   cases i with
   |zero=>
    have c1:¬(a.length:Int)<(m:Int):=by omega
    simp only [oj,AY,zr] at y2;unfold H6;refine Uw (J2 c1 y2) ?_;simp [Cc,y2]
   |succ i=>
    have c1:(a.length:Int)<(m:Int):=by omega
    have hw:=Wi ((a.length:Int)+1);cases hv:gN b v with
    |none=>
     rw [abJ hv] at y2;unfold H6;refine Uw (J7 h hb c1 hv hw hq y2) ?_;simp [Cc,y2]
    |some q=>
     obtain ⟨n,t2⟩:=q;rw [abK hv] at y2;unfold H6;refine Uw (J6 h hb c1 hv hw hq) ?_;exact ⟨(a++[n],(i,t2)),by simp,⟨by simp;omega,y2⟩,by simp⟩
  ·have fa:jq b u=none:=by simp [jq,hg,q1]
   refine Uw (J4 h hb hg fa) ?_;repeat intro hc
   simp [Cc,fa]
def MC:ByteArray:=⟨#[0,1,2,2,3,3,3,3,4,4,4,4,4,4,4,4,5,5,5,5,5,5,5,5,5,5,5,5,5,5,5,5,6,6,6,6,6,6,6,6,6,6,6,6,6,6,6,6,6,6,6,6,6,6,6,6,6,6,6,6,6,6,6,6,7,7,7,7,7,7,7,7,7,7,7,7,7,7,7,7,7,7,7,7,7,7,7,7,7,7,7,7,7,7,7,7,7,7,7,7,7,7,7,7,7,7,7,7,7,7,7,7,7,7,7,7,7,7,7,7,7,7,7,7,7,7,7,7,8,8,8,8,8,8,8,8,8,8,8,8,8,8,8,8,8,8,8,8,8,8,8,8,8,8,8,8,8,8,8,8,8,8,8,8,8,8,8,8,8,8,8,8,8,8,8,8,8,8,8,8,8,8,8,8,8,8,8,8,8,8,8,8,8,8,8,8,8,8,8,8,8,8,8,8,8,8,8,8,8,8,8,8,8,8,8,8,8,8,8,8,8,8,8,8,8,8,8,8,8,8,8,8,8,8,8,8,8,8,8,8,8,8,8,8,8,8,8,8,8,8,8,8,8,8,8,8]⟩
def ed (x:Nat):Nat:=if h:x=0 then 0 else ed (x/2)+1
termination_by x
decreasing_by omega
theorem CA:ed 0=0:=by rw [ed];simp
theorem IN {x:Nat} (h:x≠0):ed x=ed (x/2)+1:=by rw [ed];simp [h]
theorem IM:∀(k x:Nat),2^k≤x→ed x=k+ed (x/2^k)
 |0,x,_=>by simp
 |k+1,x,h=>by
  have h1:2^k≤x/2:=by rw [zt] at h;omega
  have h2:=zU k;rw [IN (by omega),IM k (x/2) h1,Nat.div_div_eq_div_mul,zt,zH 2];omega
def CL:Nat→Nat→Nat
 |0,_=>0
 |f+1,x=>if x=0 then 0 else CL f (x/2)+1
theorem VQ:∀(f x:Nat),x<2^f→CL f x=ed x
 |0,x,h=>by simp at h;subst h;simp [CL,CA]
 |f+1,x,h=>by
  simp only [CL];by_cases h0:x=0
  ·subst h0;simp [CA]
  ·rw [if_neg h0,IN h0,VQ f (x/2) (by rw [zt] at h;omega)]
theorem ai4:∀i:Fin 256,MC.data.toList[i.val]?=some (zM (CL 8 i.val)):=by decide+kernel
theorem xW:∀(f x:Nat),x<2^f→ed x≤f
 |0,x,h=>by simp at h;subst h;simp [CA]
 |f+1,x,h=>by
  by_cases h0:x=0
  ·subst h0;simp [CA]
  ·rw [IN h0];have:=xW f (x/2) (by rw [zt] at h;omega);omega
theorem F7 {i:Nat} (h:i<256):MC.toList[i]?=some (zM (ed i)):=by
 rw [ByteArray.toList_eq];have:=ai4 ⟨i,h⟩;simp only at this;rw [this,VQ 8 i (by omega)]
theorem F8 {i:Nat} (h:i<256):(zM (ed i)).toNat=ed i:=by
 have:=xW 8 i (by omega);simp;omega
theorem amB (x:Nat) (h:x<2147483648):Gw TT 594 [.one (.ro false (.int .u64 (x:Int)))]=some (vi ((ed x:Nat):Int),[]):=by
 refine Ga Ck QU ?_;unfold QU;rw [show (⟨#[0,1,2,2,3,3,3,3,4,4,4,4,4,4,4,4,5,5,5,5,5,5,5,5,5,5,5,5,5,5,5,5,6,6,6,6,6,6,6,6,6,6,6,6,6,6,6,6,6,6,6,6,6,6,6,6,6,6,6,6,6,6,6,6,7,7,7,7,7,7,7,7,7,7,7,7,7,7,7,7,7,7,7,7,7,7,7,7,7,7,7,7,7,7,7,7,7,7,7,7,7,7,7,7,7,7,7,7,7,7,7,7,7,7,7,7,7,7,7,7,7,7,7,7,7,7,7,7,8,8,8,8,8,8,8,8,8,8,8,8,8,8,8,8,8,8,8,8,8,8,8,8,8,8,8,8,8,8,8,8,8,8,8,8,8,8,8,8,8,8,8,8,8,8,8,8,8,8,8,8,8,8,8,8,8,8,8,8,8,8,8,8,8,8,8,8,8,8,8,8,8,8,8,8,8,8,8,8,8,8,8,8,8,8,8,8,8,8,8,8,8,8,8,8,8,8,8,8,8,8,8,8,8,8,8,8,8,8,8,8,8,8,8,8,8,8,8,8,8,8,8,8,8,8,8,8]⟩:ByteArray)=MC from rfl];have e1:¬(4294967296:Int)≤(x:Int):=by omega
 have m1:min 16 IntKind.u64.bits=16:=by simp [IntKind.bits]
 have m2:min 8 IntKind.u64.bits=8:=by simp [IntKind.bits]
 by_cases c1:65536≤x
 ·have c2:(65536:Int)≤(x:Int):=by omega
  obtain ⟨y,hy⟩:∃y,y=x/65536:=⟨_,rfl⟩;have f1:(x:Int).fdiv 65536=(y:Int):=by rw [zy _ (by omega)];omega
  have w1:ed x=16+ed y:=by rw [hy];exact IM 16 x (by omega)
  by_cases d1:256≤y
  ·have d2:(256:Int)≤(y:Int):=by omega
   obtain ⟨z,hz⟩:∃z,z=y/256:=⟨_,rfl⟩;have f2:(y:Int).fdiv 256=(z:Int):=by rw [zy _ (by omega)];omega
   have w2:ed y=8+ed z:=by rw [hz];exact IM 8 y (by omega)
   have z1:IntKind.wrap .u8 ((z:Nat):Int)=((z:Nat):Int):=wrap_u8 (by omega) (by omega);have z2:=F7 (i:=z) (by omega);have z3:=F8 (i:=z) (by omega);have z4:=xW 8 (z) (by omega);have z5:IntKind.wrap .i64 ((ed (z):Nat):Int)=((ed (z):Nat):Int):=wrap_i64 (by omega) (by omega);have z6:IntKind.wrap .i64 ((24:Int)+((ed (z):Nat):Int))=((ed x:Nat):Int):=by rw [wrap_i64 (by omega) (by omega)];omega
   generalize Mp:ed x=wx at *;generalize Mo:ed (z)=ws at *;refine Ua (J8 c2 d2 f1 f2 m1 m2 z1 (J5 z2 z3 z5 z6 e1)) ?_;simp [Ck, *]
  ·have d2:¬(256:Int)≤(y:Int):=by omega
   have z1:IntKind.wrap .u8 ((y:Nat):Int)=((y:Nat):Int):=wrap_u8 (by omega) (by omega);have z2:=F7 (i:=y) (by omega);have z3:=F8 (i:=y) (by omega);have z4:=xW 8 (y) (by omega);have z5:IntKind.wrap .i64 ((ed (y):Nat):Int)=((ed (y):Nat):Int):=wrap_i64 (by omega) (by omega);have z6:IntKind.wrap .i64 ((16:Int)+((ed (y):Nat):Int))=((ed x:Nat):Int):=by rw [wrap_i64 (by omega) (by omega)];omega
   generalize Mp:ed x=wx at *;generalize Mo:ed (y)=ws at *;refine Ua (J8 c2 d2 f1 m1 m2 z1 z2 (J4 z3 z5 z6 e1)) ?_;simp [Ck, *]
 ·have c2:¬(65536:Int)≤(x:Int):=by omega
  by_cases d1:256≤x
  ·have d2:(256:Int)≤(x:Int):=by omega
   obtain ⟨z,hz⟩:∃z,z=x/256:=⟨_,rfl⟩;have f2:(x:Int).fdiv 256=(z:Int):=by rw [zy _ (by omega)];omega
   have w2:ed x=8+ed z:=by rw [hz];exact IM 8 x (by omega)
   have z1:IntKind.wrap .u8 ((z:Nat):Int)=((z:Nat):Int):=wrap_u8 (by omega) (by omega);have z2:=F7 (i:=z) (by omega);have z3:=F8 (i:=z) (by omega);have z4:=xW 8 (z) (by omega);have z5:IntKind.wrap .i64 ((ed (z):Nat):Int)=((ed (z):Nat):Int):=wrap_i64 (by omega) (by omega);have z6:IntKind.wrap .i64 ((8:Int)+((ed (z):Nat):Int))=((ed x:Nat):Int):=by rw [wrap_i64 (by omega) (by omega)];omega
   generalize Mp:ed x=wx at *;generalize Mo:ed (z)=ws at *;refine Ua (J8 c2 d2 f2 m1 m2 z1 z2 (J4 z3 z5 z6 e1)) ?_;simp [Ck, *]
  ·have d2:¬(256:Int)≤(x:Int):=by omega
   have z1:IntKind.wrap .u8 ((x:Nat):Int)=((x:Nat):Int):=wrap_u8 (by omega) (by omega);have z2:=F7 (i:=x) (by omega);have z3:=F8 (i:=x) (by omega);have z4:=xW 8 (x) (by omega);have z5:IntKind.wrap .i64 ((ed (x):Nat):Int)=((ed (x):Nat):Int):=wrap_i64 (by omega) (by omega);have z6:IntKind.wrap .i64 ((0:Int)+((ed (x):Nat):Int))=((ed x:Nat):Int):=by rw [wrap_i64 (by omega) (by omega)];omega
   generalize Mp:ed x=wx at *;generalize Mo:ed (x)=ws at *;refine Ua (J8 c2 d2 m1 m2 z1 z2 z3 (J3 z5 z6 e1)) ?_;simp [Ck, *]
theorem amA (x:Nat) (h:x<2147483648):Gw TT 583 [.one (.ro false (.int .u64 (x:Int)))]=some (vi ((ed x:Nat):Int),[]):=by
 refine Ga Sw QJ ?_;unfold QJ;refine Ua (J2 @amB h) ?_;all_goals simp [Sw]
def gI (n:Int):Int:=if 0≤n∧n≤2147483647 then ((ed n.toNat:Nat):Int) else 0
theorem anl (n:Int):0≤gI n∧gI n≤31:=by
 unfold gI;split
 ·have:=xW 31 n.toNat (by omega);omega
 ·omega
@[simp] theorem asf:Gw TT 555 [vi n]=some (vi (gI n),[]):=by
 refine Ga Hb P_ ?_;unfold P_;by_cases q:1≤n∧n≤2147483647
 ·obtain ⟨m,rfl⟩:=zg (show 0≤n by omega);have q1:(1:Int)≤(m:Int):=q.1;have q2:(m:Int)≤2147483647:=q.2;have q3:m<2147483648:=by omega
  have hw:IntKind.wrap .u64 (m:Int)=(m:Int):=by simp [IntKind.wrap,IntKind.signed,IntKind.bits];omega
  have hi:gI (m:Int)=((ed m:Nat):Int):=by simp [gI];omega
  refine Uw (J5 q1 q2 hw @amA q3) ?_;simp [Hb,hi]
 ·have hi:gI n=0:=by
   unfold gI;split
   ·rw [show n.toNat=0 by omega,CA];try rfl
   ·rfl
  refine Uw Oo ?_;repeat intro hc
  simp [Hb,hi]
@[simp] theorem ar8:Gw TT 542 [vi n]=some (vi (gI n),[]):=by
 refine Ga G6 PW ?_;unfold PW;by_cases q:0≤n∧n≤2147483647
 ·obtain ⟨m,rfl⟩:=zg q.1;have q2:(m:Int)≤2147483647:=q.2;have hi:gI (m:Int)=((ed m:Nat):Int):=by simp [gI];omega
  have lF:=xW 31 m (by omega);refine Uw q2 ?_;refine ba (σ:=Nat×Nat) (fun s=>[(3,vn (s.1:Nat),none),(4,vn (s.2:Nat),none)]) (fun s=>s.1+ed s.2=ed m∧s.2≤m) (fun s=>s.2) (0,m) (by simp) ⟨by simp,zD _⟩ ?_;rintro ⟨w,x⟩ ⟨y1,y2⟩;simp only at y1 y2;by_cases c1:x=0
  ·subst c1;rw [CA] at y1;simp only [Nat.add_zero] at y1;unfold TP;refine Uw Oo ?_;simp [G6,hi,y1]
  ·rw [IN c1] at y1;have c2:(0:Int)<(x:Int):=by omega
   have fZ:=Wi ((w:Int)+1);have eF:=Wi ((x:Int)/2);have DC:IntKind.wrap .i64 ((x:Int).tdiv 2)=(x:Int)/2:=by rw [zf (by omega)];exact eF
   unfold TP;refine Uw (J3 c2 fZ DC) ?_;repeat intro hc
   exact ⟨(w+1,x/2),by simp [eF],⟨by show w+1+ed (x/2)=ed m;omega,by show x/2≤m;omega⟩,by show x/2<x;omega⟩
 ·have hi:gI n=0:=by simp [gI,q]
  refine Uw Oo ?_;repeat intro hc
  simp [G6,hi]
def j9:Int→List Int→Int
 |w,[]=>w
 |w,n::l=>j9 (if w<gI n then gI n else w) l
theorem adt:∀(l:List Int) (w:Int),0≤w∧w≤31→0≤j9 w l∧j9 w l≤31
 |[],w,h=>h
 |n::l,w,h=>by
  simp only [j9];have:=anl n;exact adt l _ (by split<;>omega)
@[simp] theorem asB (l:List Int) (h:l.length≤1048576):Gw TT 588 [.one (rl k0 1 (l.map ei))]=some (vi (j9 0 l),[]):=by
 refine Ga Sz QO ?_;unfold QO;refine Ud Oo ?_;refine ba (σ:=List (Int)×List (Int)×Int) (fun s=>[(3,vn s.2.2,none),(6,AV.v k0 (D.sl 1 (l.map ei)),none),(7,vn (l.length:Nat),none),(8,vn ((s.1.length:Nat):Int),none)]) (fun s=>l=s.1++s.2.1∧j9 s.2.2 s.2.1=j9 0 l) (fun s=>s.2.1.length) ([],l,0) (by simp) ⟨rfl,rfl⟩ ?_;rintro ⟨pre,rest,a⟩ ⟨h1,h2⟩;simp only at h1 h2;subst h1;simp only [zb,za] at h;rcases rest with _|⟨d,rest⟩
 ·unfold Uf;simp only [j9] at h2;refine Ud Oo ?_;simp_all [Sz]
 ·unfold Uf;simp only [za] at h;simp only [j9] at h2;have hw:=Wi ((pre.length:Int)+1);refine Ud hw ?_;repeat intro hc
  (refine ⟨(pre++[d],rest,(if a<gI d then gI d else a)),?_,⟨?_,?_⟩,?_⟩;(focus (first|(simp;done)|(simp_all;done)));(focus (simp;done));(focus (refine zp ?_ h2;clear h2;first|(simp [*];done)|(simp_all;done)|(split<;>simp_all<;>omega)|(split<;>first|(exfalso;omega)|(simp_all;done))));(focus (simp;done)))
@[simp] theorem ass (l:List Int) (h:l.length≤1048576):Gw TT 576 [.one (rl k0 1 (l.map ei))]=some (vi (j9 0 l),[]):=by
 refine Ga Ss QB ?_;unfold QB;refine Ud Oo ?_;refine ba (σ:=List (Int)×List (Int)×Int) (fun s=>[(0,AV.v k0 (D.sl 1 (l.map ei)),none),(3,vn s.2.2,none),(4,vn ((s.1.length:Nat):Int),none)]) (fun s=>l=s.1++s.2.1∧j9 s.2.2 s.2.1=j9 0 l) (fun s=>s.2.1.length) ([],l,0) (by simp) ⟨rfl,rfl⟩ ?_;rintro ⟨pre,rest,a⟩ ⟨h1,h2⟩;simp only at h1 h2;subst h1;simp only [zb,za] at h;rcases rest with _|⟨d,rest⟩
 ·unfold T8;simp only [j9] at h2;refine Ud Oo ?_;simp_all [Ss]
 ·unfold T8;simp only [za] at h;simp only [j9] at h2;have hw:=Wi ((pre.length:Int)+1);refine Ud hw ?_ ?_;all_goals repeat intro hc
  all_goals first|(refine ⟨(pre++[d],rest,gI d),?_,⟨?_,?_⟩,?_⟩;(focus (first|(simp;done)|(simp_all;done)));(focus (simp;done));(focus (refine zp ?_ h2;clear h2;first|(simp [*];done)|(simp_all;done)|(split<;>simp_all<;>omega)|(split<;>first|(exfalso;omega)|(simp_all;done))));(focus (simp;done)))|(refine ⟨(pre++[d],rest,a),?_,⟨?_,?_⟩,?_⟩;(focus (first|(simp;done)|(simp_all;done)));(focus (simp;done));(focus (refine zp ?_ h2;clear h2;first|(simp [*];done)|(simp_all;done)|(split<;>simp_all<;>omega)|(split<;>first|(exfalso;omega)|(simp_all;done))));(focus (simp;done)))
def ln (w:Int):List Int→Bool
 |[]=>true
 |n::l=>if (0≤n∧n≤2147483647)∧gI n≤w then ln w l else false
@[simp] theorem asF (l:List Int) (h:l.length≤1048576) (w:Int):Gw TT 592 [.one (rl k0 1 (l.map ei)),vi w]=some (vb (ln w l&&(decide (0≤w)&&decide (w≤31))),[]):=by
 refine Ga Hv QT ?_;unfold QT;refine Ud Oo ?_;refine ba (σ:=List (Int)×List (Int)) (fun s=>[(0,AV.v k0 (D.sl 1 (l.map ei)),none),(1,vn w,none),(5,vn ((s.1.length:Nat):Int),none)]) (fun s=>l=s.1++s.2∧ln w s.2=ln w l) (fun s=>s.2.length) ([],l) (by simp) ⟨rfl,rfl⟩ ?_;rintro ⟨pre,rest⟩ ⟨h1,h2⟩;simp only at h1 h2;subst h1;simp only [zb,za] at h;rcases rest with _|⟨d,rest⟩
 ·unfold Uk;simp only [ln] at h2;refine Ud Oo ?_;simp_all [Hv]
 ·unfold Uk;simp only [za] at h;simp only [ln] at h2;have hw:=Wi ((pre.length:Int)+1);refine Ud hw ?_ ?_ ?_;all_goals repeat intro hc
  all_goals first|(refine ⟨(pre++[d],rest),?_,⟨?_,?_⟩,?_⟩;(focus (first|(simp;done)|(simp_all;done)));(focus (simp;done));(focus (refine zp ?_ h2;clear h2;first|(simp [*];done)|(simp_all;done)|(split<;>simp_all<;>omega)|(split<;>first|(exfalso;omega)|(simp_all;done))));(focus (simp;done)))|(split at h2<;>first|(exfalso;omega)|(simp_all [Hv];done))
def nN (k w:Int):Int:=if (0≤k∧k≤64)∧(0≤w∧w≤31) then (k*w+7)/8 else 0
@[simp] theorem asw (k w:Int):Gw TT 581 [vi k,vi w]=some (vi (nN k w),[]):=by
 refine Ga Ho QH ?_;unfold QH;by_cases q:(0≤k∧k≤64)∧(0≤w∧w≤31)
 ·have hm0:0≤k*w:=Zl q.1.1 q.2.1;have nV:k*w≤64*31:=Zm q.1.2 q.2.2 q.2.1 (by omega);have hi:nN k w=(k*w+7)/8:=by simp [nN,q]
  have w1:=Wi (k*w);have w2:=Wi (k*w+7);have w3:IntKind.wrap .i64 ((k*w+7).tdiv 8)=(k*w+7)/8:=by rw [zf (by omega)];exact wrap_i64 (by omega) (by omega)
  refine Ud (J7 q.1.1 q.1.2 q.2.1 q.2.2 w1 w2 w3) ?_;simp [Ho,hi]
 ·have hi:nN k w=0:=by simp [nN];intro _ _ _ _;exfalso;omega
  refine Ud Oo ?_ ?_;all_goals repeat intro hc
  all_goals simp [Ho,hi]
@[simp] theorem asn (k w:Int):Gw TT 570 [vi k,vi w]=some (vi (nN k w),[]):=by
 refine Ga Hh Qu ?_;unfold Qu;by_cases q:(0≤k∧k≤64)∧(0≤w∧w≤31)
 ·have hm0:0≤k*w:=Zl q.1.1 q.2.1;have nV:k*w≤64*31:=Zm q.1.2 q.2.2 q.2.1 (by omega);have hi:nN k w=(k*w+7)/8:=by simp [nN,q]
  have w1:=Wi (k*w);have w2:=Wi (k*w+7);have w3:IntKind.wrap .i64 ((k*w+7).tdiv 8)=(k*w+7)/8:=by rw [zf (by omega)];exact wrap_i64 (by omega) (by omega)
  refine Ud (J7 q.1.1 q.1.2 q.2.1 q.2.2 w1 w2 w3) ?_;simp [Hh,hi]
 ·have hi:nN k w=0:=by simp [nN];intro _ _ _ _;exfalso;omega
  refine Ud Oo ?_ ?_;all_goals repeat intro hc
  all_goals simp [Hh,hi]
def lg (b:List Int) (m:Nat):Nat:=match b[m/8]? with
 |some c=>c.toNat/2^(m%8)%2
 |none=>0
theorem CK (b:List Int) (m:Nat):lg b m≤1:=by
 unfold lg;split<;>omega
@[simp] theorem amz (m:Nat) (h:b.length≤1048576) (hb:bI b) (hm:m≤4611686018427387904):Gw TT 582 [.one (rl k0 1 (b.map eb)),vi (m:Nat)]=some (vi ((lg b m:Nat):Int),[]):=by
 refine Ga Hp QI ?_;unfold QI;have d1:(m:Int).tdiv 8=((m/8:Nat):Int):=by rw [zf (by omega)];omega
 have d2:(m:Int).tmod 8=((m%8:Nat):Int):=by rw [zm (by omega)];omega
 have d3:=Wi ((m:Int)/8);have d4:IntKind.wrap .i64 ((m:Int).tdiv 8)=(m:Int)/8:=by rw [zf (by omega)];exact d3
 by_cases q:m/8<b.length
 ·obtain ⟨c,hg⟩:∃c,b[m/8]?=some c:=⟨_,zI q⟩;have jX:b[m/8]=c:=(zj.1 hg).2;have fT:=hb c (zC hg);obtain ⟨cn,rfl⟩:=zg fT.1;have hi:lg b m=cn/2^(m%8)%2:=by simp [lg,hg]
  have q1:(m:Int)/8<(b.length:Int):=by omega
  have q2:¬(b.length:Int)≤(m:Int)/8:=by omega
  have q3:((m:Int)/8).toNat=m/8:=by omega
  have q4:(0:Int)≤(m:Int)/8:=by omega
  have r0:¬((m:Int)%8<0):=by omega
  have r1:((m:Int)%8).toNat=m%8:=by omega
  have r2:min (m%8) IntKind.u8.bits=m%8:=by simp [IntKind.bits];omega
  have r3:min (m%8) IntKind.i64.bits=m%8:=by simp [IntKind.bits];omega
  obtain ⟨v,hv⟩:∃v,v=cn/2^(m%8):=⟨_,rfl⟩;have pL:v≤255:=by rw [hv];exact zV (Zi _ _) (by omega)
  have r4:(cn:Int).fdiv (2^(m%8))=(v:Int):=by
   rw [zy _ (Int.le_of_lt (Int.pow_pos (by omega))),hv];simp
  have r5:v%2^IntKind.u8.bits=v:=by simp [IntKind.bits];omega
  have r6:v%2^IntKind.i64.bits=v:=by simp [IntKind.bits];omega
  have r7:1%2^IntKind.u8.bits=1:=by simp [IntKind.bits]
  have r8:1%2^IntKind.i64.bits=1:=by simp [IntKind.bits]
  have r9:IntKind.wrap .i64 (cn:Int)=(cn:Int):=wrap_i64 (by omega) (by omega);have s1:IntKind.wrap .u8 ((v:Int)%2)=(v:Int)%2:=wrap_u8 (by omega) (by omega);have s2:=Wi ((v:Int)%2);rw [←hv] at hi;refine Ud (J8 q q1 q2 q3 q4 hg jX (J8 d2 d3 d4 r0 r1 r2 r3 (J8 r4 r5 r6 r7 r8 r9 s1 s2))) ?_;repeat intro hc
  simp [Hp,hi]
 ·have hi:lg b m=0:=by simp [lg,zR (show b.length≤m/8 by omega)]
  have q2:(b.length:Int)≤(m:Int)/8:=by omega
  refine Ud (J3 q2 d3 d4) ?_;repeat intro hc
  simp [Hp,hi]
@[simp] theorem amx (m:Nat) (h:b.length≤1048576) (hb:bI b) (hm:m≤4611686018427387904):Gw TT 571 [.one (rl k0 1 (b.map eb)),vi (m:Nat)]=some (vi ((lg b m:Nat):Int),[]):=by
 refine Ga Hj Qv ?_;unfold Qv;have d1:(m:Int).tdiv 8=((m/8:Nat):Int):=by rw [zf (by omega)];omega
 have d2:(m:Int).tmod 8=((m%8:Nat):Int):=by rw [zm (by omega)];omega
 have d3:=Wi ((m:Int)/8);have d4:IntKind.wrap .i64 ((m:Int).tdiv 8)=(m:Int)/8:=by rw [zf (by omega)];exact d3
 by_cases q:m/8<b.length
 ·obtain ⟨c,hg⟩:∃c,b[m/8]?=some c:=⟨_,zI q⟩;have jX:b[m/8]=c:=(zj.1 hg).2;have fT:=hb c (zC hg);obtain ⟨cn,rfl⟩:=zg fT.1;have hi:lg b m=cn/2^(m%8)%2:=by simp [lg,hg]
  have q1:(m:Int)/8<(b.length:Int):=by omega
  have q2:¬(b.length:Int)≤(m:Int)/8:=by omega
  have q3:((m:Int)/8).toNat=m/8:=by omega
  have q4:(0:Int)≤(m:Int)/8:=by omega
  have r0:¬((m:Int)%8<0):=by omega
  have r1:((m:Int)%8).toNat=m%8:=by omega
  have r2:min (m%8) IntKind.u8.bits=m%8:=by simp [IntKind.bits];omega
  have r3:min (m%8) IntKind.i64.bits=m%8:=by simp [IntKind.bits];omega
  obtain ⟨v,hv⟩:∃v,v=cn/2^(m%8):=⟨_,rfl⟩;have pL:v≤255:=by rw [hv];exact zV (Zi _ _) (by omega)
  have r4:(cn:Int).fdiv (2^(m%8))=(v:Int):=by
   rw [zy _ (Int.le_of_lt (Int.pow_pos (by omega))),hv];simp
  have r5:v%2^IntKind.u8.bits=v:=by simp [IntKind.bits];omega
  have r6:v%2^IntKind.i64.bits=v:=by simp [IntKind.bits];omega
  have r7:1%2^IntKind.u8.bits=1:=by simp [IntKind.bits]
  have r8:1%2^IntKind.i64.bits=1:=by simp [IntKind.bits]
  have r9:IntKind.wrap .i64 (cn:Int)=(cn:Int):=wrap_i64 (by omega) (by omega);have s1:IntKind.wrap .u8 ((v:Int)%2)=(v:Int)%2:=wrap_u8 (by omega) (by omega);have s2:=Wi ((v:Int)%2);rw [←hv] at hi;refine Ud (J8 q q1 q2 q3 q4 hg jX (J8 d2 d3 d4 r0 r1 r2 r3 (J8 r4 r5 r6 r7 r8 r9 s1 s2))) ?_;repeat intro hc
  simp [Hj,hi]
 ·have hi:lg b m=0:=by simp [lg,zR (show b.length≤m/8 by omega)]
  have q2:(b.length:Int)≤(m:Int)/8:=by omega
  refine Ud (J3 q2 d3 d4) ?_;repeat intro hc
  simp [Hj,hi]
def sc (b:List Int):Nat→Nat→Nat→Nat→Nat
 |0,_,_,a=>a
 |r+1,p,j,a=>sc b r (p+1) (j+1) (a ||| lg b p*2^j)
def qJ (b:List Int) (w:Nat):Nat→Nat→List Int
 |0,_=>[]
 |r+1,i=>((sc b w (i*w) 0 0:Nat):Int)::qJ b w r (i+1)
def sG (b:List Int):Nat→Nat→Bool
 |0,_=>true
 |r+1,p=>if lg b p=0 then sG b r (p+1) else false
theorem adk (b:List Int) (w:Nat):∀(r i:Nat),(qJ b w r i).length=r
 |0,i=>rfl
 |r+1,i=>by simp [qJ,adk b w r (i+1)]
def ix (b:List Int) (w k:Int):Option (List Int):=if ((0≤w∧w≤31)∧(0≤k∧k≤64))∧(b.length:Int)=nN k w then
 (if sG b (8*b.length-k.toNat*w.toNat) (k.toNat*w.toNat)=true then some (qJ b w.toNat k.toNat 0) else none) else none
def B2 (r:Option (List Int)):V:=match r with
 |some l=>.cf [.one (.own (.sl 1 (l.map ei))),vb true]
 |none=>.cf [.one (.own (.sl 1 [])),vb false]
@[simp] theorem aq' (l:List Int):B2 (some l)=.cf [.one (.own (.sl 1 (l.map ei))),vb true]:=rfl
@[simp] theorem aq_:B2 none=.cf [.one (.own (.sl 1 [])),vb false]:=rfl
theorem MN (b:List Int):∀(r p j a:Nat),a<2^j→sc b r p j a<2^(j+r)
 |0,p,j,a,h=>h
 |r+1,p,j,a,h=>by
  simp only [sc]
  have h1:lg b p*2^j<2^(j+1):=by
   have:=CK b p;have h2:lg b p*2^j≤1*2^j:=zk this (zD _);have:=zU j;rw [zt];omega
  have:=MN b r (p+1) (j+1) (a ||| lg b p*2^j) (zL (zG h (zn (by omega) (by omega))) h1);rw [show j+(r+1)=j+1+r by omega];exact this
@[simp] theorem ase (h:b.length≤1048576) (hb:bI b):Gw TT 554 [.one (rl k0 1 (b.map eb)),vi w,vi k]=some (B2 (ix b w k),[]):=by
 refine Ga AN P9 ?_;unfold P9;by_cases q1:0≤w∧w≤31
 ·by_cases q2:0≤k∧k≤64
  ·by_cases q3:(b.length:Int)=nN k w
   ·obtain ⟨wn,rfl⟩:=zg q1.1;obtain ⟨kn,rfl⟩:=zg q2.1;have q4:(wn:Int)≤31:=q1.2;have q5:(kn:Int)≤64:=q2.2;have Ky:nN (kn:Int) (wn:Int)=((kn:Int)*(wn:Int)+7)/8:=by simp [nN,q4,q5]
    obtain ⟨T,hT⟩:∃T,T=kn*wn:=⟨_,rfl⟩;have yv:(kn:Int)*(wn:Int)=(T:Int):=by rw [hT];simp
    have hTl:T≤64*31:=by rw [hT];exact zk (by omega) (by omega)
    have hlen:b.length=(T+7)/8:=by rw [Ky,yv] at q3;omega
    have eB:ix b (wn:Int) (kn:Int)=if sG b (8*b.length-T) T=true then some (qJ b wn kn 0) else none:=by
     unfold ix;rw [if_pos ⟨⟨q1,q2⟩,q3⟩];simp [hT]
    refine Ud (J5 q4 q5 q3 h hb) ?_;refine ba (σ:=List Int×Nat) (fun s=>[(0,AV.v k0 (D.sl 1 (b.map eb)),none),(1,vn (wn:Nat),none),(2,vn (kn:Nat),none),(8,AV.pl 8 0 [],some (Rt.aX [C.own (D.sl 1 ((s.1).map ei))])),(9,vn (s.2:Nat),none)]) (fun s=>s.2≤kn∧s.1.length=s.2∧qJ b wn kn 0=s.1++qJ b wn (kn-s.2) s.2) (fun s=>kn-s.2) ([],0) (by simp) ⟨by simp,rfl,by simp⟩ ?_;rintro ⟨a,i⟩ ⟨y1,y2,y3⟩;simp only at y1 y2 y3;by_cases c1:i=kn
    ·subst c1;have c2:¬(i:Int)<(i:Int):=by omega
     simp only [zJ,qJ,zr] at y3;have Ks:IntKind.wrap .i64 ((i:Int)*(wn:Int))=(T:Int):=by rw [yv];exact wrap_i64 (by omega) (by omega)
     unfold TX;refine Ud Ks ?_;refine ba (σ:=Nat) (fun s=>[(0,AV.v k0 (D.sl 1 (b.map eb)),none),(8,AV.pl 8 0 [],some (Rt.aX [C.own (D.sl 1 ((a).map ei))])),(12,vn (s:Nat),none)]) (fun s=>s≤8*b.length∧sG b (8*b.length-T) T=sG b (8*b.length-s) s) (fun s=>8*b.length-s) T (by simp) ⟨by omega,rfl⟩ ?_;rintro p ⟨x1,x2⟩;have w8:=Wi (8*(b.length:Int));by_cases e1:p=8*b.length
     ·have e2:¬(p:Int)<8*(b.length:Int):=by omega
      rw [e1,zJ] at x2;simp only [sG] at x2;rw [if_pos x2] at eB;unfold Ig;refine Ud (J3 w8 e2 eB) ?_;simp [AN,eB,y3]
     ·have e2:(p:Int)<8*(b.length:Int):=by omega
      have fZ:=Wi ((p:Int)+1);rw [show 8*b.length-p=(8*b.length-(p+1))+1 by omega] at x2;simp only [sG] at x2;have yQ:p≤4611686018427387904:=by omega
      have vF:=CK b p;by_cases e3:lg b p=0
      ·rw [if_pos e3] at x2;unfold Ig;refine Ud (J7 w8 e2 fZ h hb yQ e3) ?_;exact ⟨p+1,by simp,⟨by omega,x2⟩,by show 8*b.length-(p+1)<8*b.length-p;omega⟩
      ·rw [if_neg e3] at x2;rw [if_neg (by rw [x2];simp)] at eB;unfold Ig;refine Ud (J8 w8 e2 fZ h hb yQ e3 eB) ?_;repeat intro hc
       simp [AN,eB]
    ·have c2:(i:Int)<(kn:Int):=by omega
     have hs:kn-i=(kn-(i+1))+1:=by omega
     rw [hs] at y3;simp only [qJ] at y3;obtain ⟨R,hR⟩:∃R,R=sc b wn (i*wn) 0 0:=⟨_,rfl⟩;obtain ⟨P,hP⟩:∃P,P=i*wn:=⟨_,rfl⟩;have Kn:(i:Int)*(wn:Int)=(P:Int):=by rw [hP];simp
     have hPl:P≤64*31:=by rw [hP];exact zk (by omega) (by omega)
     have fZ:=Wi ((i:Int)+1);have Ko:IntKind.wrap .i64 ((i:Int)*(wn:Int))=(P:Int):=by rw [Kn];exact wrap_i64 (by omega) (by omega)
     rw [←hR] at y3;rw [←hP] at hR
     have hRl:R<2^31:=by
      have:=MN b wn P 0 0 (by simp);rw [←hR] at this;exact zG this (zn (by omega) (by omega))
     unfold TX;refine Ud c2 ?_;refine ba (σ:=Nat×Nat) (fun s=>[(0,AV.v k0 (D.sl 1 (b.map eb)),none),(1,vn (wn:Nat),none),(2,vn (kn:Nat),none),(8,AV.pl 8 0 [],some (Rt.aX [C.own (D.sl 1 ((a).map ei))])),(9,vn (i:Nat),none),(10,vn (s.2:Nat),none),(11,vn (s.1:Nat),none)]) (fun s=>s.1≤wn∧s.2<2^s.1∧R=sc b (wn-s.1) (P+s.1) s.1 s.2) (fun s=>wn-s.1) (0,0) (by simp) ⟨by simp,by simp,by simpa using hR⟩ ?_;rintro ⟨j,x⟩ ⟨x1,x2,x3⟩;simp only at x1 x2 x3;by_cases e1:j=wn
     ·subst e1;have e2:¬(j:Int)<(j:Int):=by omega
      simp only [zJ,sc] at x3;subst x3;have hq:(a.length+1)*8≤70368744177664:=by omega
      unfold TW;refine Ud (J2 fZ hq) ?_;exact ⟨(a++[(R:Int)],i+1),by simp,⟨by omega,by simp [y2],by rw [y3];simp⟩,by show kn-(i+1)<kn-i;omega⟩
     ·have e2:(j:Int)<(wn:Int):=by omega
      rw [show wn-j=(wn-(j+1))+1 by omega] at x3;simp only [sc] at x3;have aD:=amz k0 b (P+j) h hb (by omega);simp only [Zj] at aD;have vF:=CK b (P+j);generalize lg b (P+j)=v at *;obtain ⟨t,ht⟩:∃t,t=v*2^j:=⟨_,rfl⟩;have KM:(2:Nat)^j≤2^30:=zn (by omega) (by omega);have Dy:t≤2^30:=by rw [ht];exact zV (zk vF KM) (by simp)
      have z1:=Wi ((P:Int)+(j:Int));have z2:min j IntKind.i64.bits=j:=by simp [IntKind.bits];omega
      have z3:IntKind.wrap .i64 ((v:Int)*2^j)=(t:Int):=by rw [show (v:Int)*2^j=(t:Int) by rw [ht];simp];exact wrap_i64 (by omega) (by omega)
      rw [←ht] at x3;have hj3:(2:Nat)^(j+1)=2*2^j:=by rw [zt];omega
      have Mg:t<2^(j+1):=by
       have:t≤1*2^j:=by rw [ht];exact zk vF (zD _)
       have:=zU j;omega
      have tC:x ||| t<2^(j+1):=zL (by omega) Mg
      have aht:x ||| t<2^31:=zG tC (zn (by omega) (by omega))
      have z4:x%2^IntKind.i64.bits=x:=by simp only [IntKind.bits];omega
      have z5:t%2^IntKind.i64.bits=t:=by simp only [IntKind.bits];omega
      have z6:IntKind.wrap .i64 ((x ||| t:Nat):Int)=((x ||| t:Nat):Int):=wrap_i64 (by omega) (by omega);have z7:=Wi ((j:Int)+1);have z0:¬(j:Int)<0:=by omega
      unfold TW;refine Ud (J8 e2 Ko z0 z1 aD z2 z3 (J4 z4 z5 z6 z7)) ?_;exact ⟨(j+1,x ||| t),by simp,⟨by omega,tC,by rw [x3];rfl⟩,by show wn-(j+1)<wn-j;omega⟩
   ·have hn:ix b w k=none:=by unfold ix;rw [if_neg (fun e=>q3 e.2)]
    refine Ud (J6 q1.1 q1.2 q2.1 q2.2 q3 hn) ?_;repeat intro hc
    simp [AN,hn]
  ·have hn:ix b w k=none:=by unfold ix;rw [if_neg (fun e=>q2 e.1.2)]
   refine Ud (J3 q1.1 q1.2 hn) ?_;repeat intro hc
   simp [AN,hn]
 ·have hn:ix b w k=none:=by unfold ix;rw [if_neg (fun e=>q1 e.1.1)]
  refine Ud hn ?_;repeat intro hc
  simp [AN,hn]
@[simp] theorem ar7 (h:b.length≤1048576) (hb:bI b):Gw TT 541 [.one (rl k0 1 (b.map eb)),vi w,vi k]=some (B2 (ix b w k),[]):=by
 refine Ga AK PV ?_;unfold PV;by_cases q1:0≤w∧w≤31
 ·by_cases q2:0≤k∧k≤64
  ·by_cases q3:(b.length:Int)=nN k w
   ·obtain ⟨wn,rfl⟩:=zg q1.1;obtain ⟨kn,rfl⟩:=zg q2.1;have q4:(wn:Int)≤31:=q1.2;have q5:(kn:Int)≤64:=q2.2;have Ky:nN (kn:Int) (wn:Int)=((kn:Int)*(wn:Int)+7)/8:=by simp [nN,q4,q5]
    obtain ⟨T,hT⟩:∃T,T=kn*wn:=⟨_,rfl⟩;have yv:(kn:Int)*(wn:Int)=(T:Int):=by rw [hT];simp
    have hTl:T≤64*31:=by rw [hT];exact zk (by omega) (by omega)
    have hlen:b.length=(T+7)/8:=by rw [Ky,yv] at q3;omega
    have eB:ix b (wn:Int) (kn:Int)=if sG b (8*b.length-T) T=true then some (qJ b wn kn 0) else none:=by
     unfold ix;rw [if_pos ⟨⟨q1,q2⟩,q3⟩];simp [hT]
    refine Ud (J5 q4 q5 q3 h hb) ?_;refine ba (σ:=List Int×Nat) (fun s=>[(0,AV.v k0 (D.sl 1 (b.map eb)),none),(1,vn (wn:Nat),none),(2,vn (kn:Nat),none),(8,AV.pl 8 0 [],some (Rt.aX [C.own (D.sl 1 ((s.1).map ei))])),(9,vn (s.2:Nat),none)]) (fun s=>s.2≤kn∧s.1.length=s.2∧qJ b wn kn 0=s.1++qJ b wn (kn-s.2) s.2) (fun s=>kn-s.2) ([],0) (by simp) ⟨by simp,rfl,by simp⟩ ?_;rintro ⟨a,i⟩ ⟨y1,y2,y3⟩;simp only at y1 y2 y3;by_cases c1:i=kn
    ·subst c1;have c2:¬(i:Int)<(i:Int):=by omega
     simp only [zJ,qJ,zr] at y3;have Ks:IntKind.wrap .i64 ((i:Int)*(wn:Int))=(T:Int):=by rw [yv];exact wrap_i64 (by omega) (by omega)
     unfold TO;refine Ud Ks ?_;refine ba (σ:=Nat) (fun s=>[(0,AV.v k0 (D.sl 1 (b.map eb)),none),(8,AV.pl 8 0 [],some (Rt.aX [C.own (D.sl 1 ((a).map ei))])),(12,vn (s:Nat),none)]) (fun s=>s≤8*b.length∧sG b (8*b.length-T) T=sG b (8*b.length-s) s) (fun s=>8*b.length-s) T (by simp) ⟨by omega,rfl⟩ ?_;rintro p ⟨x1,x2⟩;have w8:=Wi (8*(b.length:Int));by_cases e1:p=8*b.length
     ·have e2:¬(p:Int)<8*(b.length:Int):=by omega
      rw [e1,zJ] at x2;simp only [sG] at x2;rw [if_pos x2] at eB;unfold Ib;refine Ud (J3 w8 e2 eB) ?_;simp [AK,eB,y3]
     ·have e2:(p:Int)<8*(b.length:Int):=by omega
      have fZ:=Wi ((p:Int)+1);rw [show 8*b.length-p=(8*b.length-(p+1))+1 by omega] at x2;simp only [sG] at x2;have yQ:p≤4611686018427387904:=by omega
      have vF:=CK b p;by_cases e3:lg b p=0
      ·rw [if_pos e3] at x2;unfold Ib;refine Ud (J7 w8 e2 fZ h hb yQ e3) ?_;exact ⟨p+1,by simp,⟨by omega,x2⟩,by show 8*b.length-(p+1)<8*b.length-p;omega⟩
      ·rw [if_neg e3] at x2;rw [if_neg (by rw [x2];simp)] at eB;unfold Ib;refine Ud (J8 w8 e2 fZ h hb yQ e3 eB) ?_;repeat intro hc
       simp [AK,eB]
    ·have c2:(i:Int)<(kn:Int):=by omega
     have hs:kn-i=(kn-(i+1))+1:=by omega
     rw [hs] at y3;simp only [qJ] at y3;obtain ⟨R,hR⟩:∃R,R=sc b wn (i*wn) 0 0:=⟨_,rfl⟩;obtain ⟨P,hP⟩:∃P,P=i*wn:=⟨_,rfl⟩;have Kn:(i:Int)*(wn:Int)=(P:Int):=by rw [hP];simp
     have hPl:P≤64*31:=by rw [hP];exact zk (by omega) (by omega)
     have fZ:=Wi ((i:Int)+1);have Ko:IntKind.wrap .i64 ((i:Int)*(wn:Int))=(P:Int):=by rw [Kn];exact wrap_i64 (by omega) (by omega)
     rw [←hR] at y3;rw [←hP] at hR
     have hRl:R<2^31:=by
      have:=MN b wn P 0 0 (by simp);rw [←hR] at this;exact zG this (zn (by omega) (by omega))
     unfold TO;refine Ud c2 ?_;refine ba (σ:=Nat×Nat) (fun s=>[(0,AV.v k0 (D.sl 1 (b.map eb)),none),(1,vn (wn:Nat),none),(2,vn (kn:Nat),none),(8,AV.pl 8 0 [],some (Rt.aX [C.own (D.sl 1 ((a).map ei))])),(9,vn (i:Nat),none),(10,vn (s.2:Nat),none),(11,vn (s.1:Nat),none)]) (fun s=>s.1≤wn∧s.2<2^s.1∧R=sc b (wn-s.1) (P+s.1) s.1 s.2) (fun s=>wn-s.1) (0,0) (by simp) ⟨by simp,by simp,by simpa using hR⟩ ?_;rintro ⟨j,x⟩ ⟨x1,x2,x3⟩;simp only at x1 x2 x3;by_cases e1:j=wn
     ·subst e1;have e2:¬(j:Int)<(j:Int):=by omega
      simp only [zJ,sc] at x3;subst x3;have hq:(a.length+1)*8≤70368744177664:=by omega
      unfold TN;refine Ud (J2 fZ hq) ?_;exact ⟨(a++[(R:Int)],i+1),by simp,⟨by omega,by simp [y2],by rw [y3];simp⟩,by show kn-(i+1)<kn-i;omega⟩
     ·have e2:(j:Int)<(wn:Int):=by omega
      rw [show wn-j=(wn-(j+1))+1 by omega] at x3;simp only [sc] at x3;have aD:=amx k0 b (P+j) h hb (by omega);simp only [Zj] at aD;have vF:=CK b (P+j);generalize lg b (P+j)=v at *;obtain ⟨t,ht⟩:∃t,t=v*2^j:=⟨_,rfl⟩;have KM:(2:Nat)^j≤2^30:=zn (by omega) (by omega);have Dy:t≤2^30:=by rw [ht];exact zV (zk vF KM) (by simp)
      have z1:=Wi ((P:Int)+(j:Int));have z2:min j IntKind.i64.bits=j:=by simp [IntKind.bits];omega
      have z3:IntKind.wrap .i64 ((v:Int)*2^j)=(t:Int):=by rw [show (v:Int)*2^j=(t:Int) by rw [ht];simp];exact wrap_i64 (by omega) (by omega)
      rw [←ht] at x3;have hj3:(2:Nat)^(j+1)=2*2^j:=by rw [zt];omega
      have Mg:t<2^(j+1):=by
       have:t≤1*2^j:=by rw [ht];exact zk vF (zD _)
       have:=zU j;omega
      have tC:x ||| t<2^(j+1):=zL (by omega) Mg
      have aht:x ||| t<2^31:=zG tC (zn (by omega) (by omega))
      have z4:x%2^IntKind.i64.bits=x:=by simp only [IntKind.bits];omega
      have z5:t%2^IntKind.i64.bits=t:=by simp only [IntKind.bits];omega
      have z6:IntKind.wrap .i64 ((x ||| t:Nat):Int)=((x ||| t:Nat):Int):=wrap_i64 (by omega) (by omega);have z7:=Wi ((j:Int)+1);have z0:¬(j:Int)<0:=by omega
      unfold TN;refine Ud (J8 e2 Ko z0 z1 aD z2 z3 (J4 z4 z5 z6 z7)) ?_;exact ⟨(j+1,x ||| t),by simp,⟨by omega,tC,by rw [x3];rfl⟩,by show wn-(j+1)<wn-j;omega⟩
   ·have hn:ix b w k=none:=by unfold ix;rw [if_neg (fun e=>q3 e.2)]
    refine Ud (J6 q1.1 q1.2 q2.1 q2.2 q3 hn) ?_;repeat intro hc
    simp [AK,hn]
  ·have hn:ix b w k=none:=by unfold ix;rw [if_neg (fun e=>q2 e.1.2)]
   refine Ud (J3 q1.1 q1.2 hn) ?_;repeat intro hc
   simp [AK,hn]
 ·have hn:ix b w k=none:=by unfold ix;rw [if_neg (fun e=>q1 e.1.1)]
  refine Ud hn ?_ ?_;all_goals repeat intro hc
  all_goals simp [AK,hn]
def tT (o:List Int) (q t:Nat):List Int:=match o[q]? with
 |some c=>o.set q ((c.toNat ||| t:Nat):Int)
 |none=>o
def grow (o:List Int) (n:Nat):List Int:=if n%8=0 then o++[0] else o
def rz (o:List Int) (n v:Nat):List Int:=tT (grow o n) (n/8) (v*2^(n%8))
def qE (x:Nat):Nat→Nat→List Int→Nat→List Int
 |0,_,o,_=>o
 |r+1,k,o,n=>qE x r (k+1) (rz o n (x/2^k%2)) (n+1)
def ou (w:Nat):List Int→List Int→Nat→List Int
 |[],o,_=>o
 |n::l,o,p=>ou w l (qE n.toNat w 0 o p) (p+w)
def ji (l:List Int) (w:Int):List Int:=if ln w l=true∧(0≤w∧w≤31) then ou w.toNat l [] 0 else []
theorem abP (o:List Int) (q t:Nat):(tT o q t).length=o.length:=by unfold tT;split<;>simp
theorem Ka {o:List Int} {n:Nat} (h:o.length=(n+7)/8):(grow o n).length=(n+8)/8:=by
 unfold grow;split
 ·simp;omega
 ·omega
theorem UT {o:List Int} {n v:Nat} (h:o.length=(n+7)/8):(rz o n v).length=(n+1+7)/8:=by
 unfold rz;rw [abP,Ka h]
theorem HC (x:Nat):∀(r k:Nat) (o:List Int) (n:Nat),o.length=(n+7)/8→(qE x r k o n).length=(n+r+7)/8
 |0,k,o,n,h=>h
 |r+1,k,o,n,h=>by
  simp only [qE];rw [HC x r (k+1) _ (n+1) (UT h)];congr 1;omega
theorem abY (w:Nat):∀(l o:List Int) (p:Nat),o.length=(p+7)/8→(ou w l o p).length=(p+l.length*w+7)/8
 |[],o,p,h=>by simp [ou,h]
 |n::l,o,p,h=>by
  simp only [ou];rw [abY w l _ (p+w) (HC _ w 0 o p h)];congr 1;simp [Nat.succ_mul];omega
theorem akk {o:List Int} {q t:Nat} (h:bI o) (ht:t≤255):bI (tT o q t):=by
 unfold tT;split
 ·rename_i c hc;intro y hy;rcases List.mem_or_eq_of_mem_set hy with hy|rfl
  ·exact h y hy
  ·have h1:=h c (zC hc);have:c.toNat ||| t<2^8:=zL (by omega) (by omega)
   omega
 ·exact h
theorem VP {v m:Nat} (hv:v≤1) (hm:m≤7):v*2^m≤128:=by
 have h1:(2:Nat)^m≤2^7:=zn (by omega) hm;have h2:v*2^m≤1*2^7:=zk hv h1;omega
theorem aad {o:List Int} {n:Nat} (h:bI o):bI (grow o n):=by
 unfold grow;split
 ·intro y hy;rcases zA.1 hy with hy|hy
  ·exact h y hy
  ·simp at hy;omega
 ·exact h
theorem UU {o:List Int} {n v:Nat} (h:bI o) (hv:v≤1):bI (rz o n v):=
 akk (aad h) (zV (VP hv (by omega)) (by omega))
theorem HD (x:Nat):∀(r k:Nat) (o:List Int) (n:Nat),bI o→bI (qE x r k o n)
 |0,k,o,n,h=>h
 |r+1,k,o,n,h=>by
  simp only [qE];exact HD x r (k+1) _ (n+1) (UU h (by omega))
theorem abZ (w:Nat):∀(l o:List Int) (p:Nat),bI o→bI (ou w l o p)
 |[],o,p,h=>h
 |n::l,o,p,h=>by
  simp only [ou];exact abZ w l _ (p+w) (HD _ w 0 o p h)
theorem qd:bI []:=fun c hc=>by simp at hc
theorem abS (l:List Int) (w:Int):bI (ji l w):=by
 unfold ji;split
 ·exact abZ _ _ _ _ qd
 ·exact qd
theorem B5 (l:List Int) (w:Int):(ji l w).length≤(l.length*31+7)/8:=by
 unfold ji;split
 ·rename_i h;rw [abY _ l [] 0 (by simp)];have:l.length*w.toNat≤l.length*31:=zk (zD _) (by omega);omega
 ·simp
def mm (L:Nat) (o:List Int):List Int:=o++zq (L-o.length) 0
theorem akt {L:Nat} {o:List Int} (h:o.length≤L):(mm L o).length=L:=by simp [mm];omega
theorem akj {a b:List Int} {q t:Nat} (h:q<a.length):tT (a++b) q t=tT a q t++b:=by
 unfold tT;rw [List.getElem?_append_left h,zI h];simp only;rw [List.set_append_left _ _ h]
theorem aku {L:Nat} {o:List Int} {n v:Nat} (h:o.length=(n+7)/8) (hL:(n+8)/8≤L):mm L (rz o n v)=tT (mm L o) (n/8) (v*2^(n%8)):=by
 have hg:=Ka h
 have h1:mm L o=mm L (grow o n):=by
  unfold grow;split
  ·simp only [mm,zb,za,zi,zY];congr 1;rw [show L-o.length=(L-(o.length+(0+1)))+1 by omega,List.replicate_succ];rfl
  ·rfl
 rw [h1];unfold rz;rw [mm,abP]
 conv=>rhs;rw [mm]
 rw [akj (by omega)]
theorem JP {w:Int}:∀{l:List Int},ln w l=true→∀n∈l,0≤n∧n≤2147483647
 |[],_,n,hn=>by simp at hn
 |x::l,h,n,hn=>by
  simp only [ln] at h;split at h
  ·rename_i hx;rcases Zo.1 hn with rfl|hn
   ·exact hx.1
   ·exact JP h n hn
  ·cases h
end Go.Proofs.YtohlfelngklcfaaGreat.OM
