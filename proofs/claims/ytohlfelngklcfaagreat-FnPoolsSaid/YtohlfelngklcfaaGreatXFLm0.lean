/- A part of the proof. -/
import Derived.Test.YtohlfelngklcfaaGreatF3
import Derived.Test.YtohlfelngklcfaaGreatXFPc0
set_option linter.all false
namespace Go.Proofs.YtohlfelngklcfaaGreat.OM
open Decidable renaming not_not→za
open List renaming length_cons→zb,length_append→zd,getElem?_eq_some_iff→zf,length_nil→zg,append_nil→zn,getElem?_eq_getElem→zo,mem_or_eq_of_mem_set→zt,mem_of_getElem?→zu,replicate→zx,mem_cons→zA,length→zF,length_drop→zH,mem_append→zK,mem_singleton→zM,getElem_mem→zP,cons_append→zQ,take_of_length_le→zR,length_replicate→zS,getElem?_eq_none→zT,mem_cons_of_mem→zU,length_pos_iff→zX,map_map→zY,mem_replicate→zZ,append_assoc→Zb,all_eq_true→Zc,not_mem_nil→Zd,drop_drop→Zg
open Classical renaming choose_spec→ze,choose→zi
open Int renaming tdiv_eq_ediv_of_nonneg→zh,eq_ofNat_of_zero_le→zj,tmod_eq_emod_of_nonneg→zk,fdiv_eq_ediv_of_nonneg→zp,toNat_of_nonneg→zW,neg_tdiv→z_,mul_nonneg→Zh,mul_le_mul→Zi
open Bool renaming and_eq_true→zm,not_eq_true→zG
open Eq renaming trans→zq
open Nat renaming pow_succ→zr,le_refl→zw,mul_comm→zB,mod_eq_of_lt→zI,mul_le_mul→zL,add_assoc→zO,pow_le_pow_right→zV,pos_of_ne_zero→Za,div_le_self→Ze,mul_assoc→Zj
open Prod renaming fst→zy,snd→zz
open Option.some renaming injEq→zC
open UInt8 renaming ofNat→zD
open ByteArray.toList renaming loop→zJ
open Prod.mk renaming injEq→zN
open _root_.ByteArray renaming size→Zf
set_option maxHeartbeats 4000000
set_option maxRecDepth 100000
variable (x:Nat) (k0:Bool) (s:ByteArray) (kind:Int) (k1:Bool) (slots:Int) (ab:List Int) (d:List aa) (bC:Int) (b:List Int) (mc:Int) (bh:List aj) (n u w cy gI i ty cx fD:Int) (v:List aa) (k:Int) (bt:ByteArray) (ep:List aj) (l:List aa) (mf:Int) (du:List Int) (me:Int) (od:ByteArray)
def OC:List (Nat×PF):=[(1,G_),(8,HV),(9,AJ),(10,pf),(12,yv),(19,tA),(20,Hb),(21,vR),(39,yF),(45,Hw),(48,tG),(52,HB),(57,r_),(60,sc),(69,HQ),(70,HR),(73,HS),(76,HT),(79,HU),(83,tR),(87,AI),(141,G'),(199,Ha),(209,Hc),(264,He),(265,rP),(266,qp),(268,yw),(298,tB),(300,vU),(319,yx),(323,yy),(335,vV),(336,yz),(338,rQ),(341,rR),(347,vW),(357,Hf),(358,rS),(359,yA),(360,Hg),(362,Hh),(363,Hi),(375,vX),(376,yB),(377,yC),(378,Hj),(379,yD),(380,tC),(381,Hk),(382,Hl),(383,yE),(384,Hm),(385,Hn),(393,tD),(394,yG),(395,yH),(396,Ho),(398,rT),(399,qq),(401,Hp),(402,Hq),(404,tE),(420,tF),(429,fC),(430,fV),(439,Hr),(440,Hs),(441,Ht),(442,Hu),(443,Hv),(461,vY),(462,ko),(463,kQ),(471,Hx),(472,rU),(473,Hy),(477,Hz),(481,HA),(490,tH),(491,nS),(492,ij),(493,tI),(494,tJ),(495,nT),(496,ik),(497,qs),(498,yI),(504,Nm),(505,vZ),(508,v8),(513,aay),(514,tK),(515,l5),(516,ng),(517,nU),(518,tL),(519,yJ),(520,yK),(521,v_),(522,tM),(523,qt),(524,ph),(525,qu),(526,tN),(527,rV),(528,yL),(529,yM),(530,HC),(531,yN),(535,tO),(536,HD),(538,pj),(539,wb),(540,yO),(541,rW),(542,yP),(543,wc),(544,yQ),(545,qv),(546,yR),(547,yS),(548,rX),(549,yT),(550,yU),(551,pn),(552,we),(553,yV),(554,rY),(555,yW),(556,wg),(557,yX),(558,qw),(559,yY),(560,yZ),(561,rZ),(562,wh),(564,HE),(565,HF),(566,y7),(568,HG),(569,wi),(570,y8),(571,y9),(572,HH),(573,y_),(574,Aa),(575,Ad),(576,HI),(577,HJ),(578,Au),(579,wj),(580,HK),(581,Ay),(582,AA),(583,HM),(584,HN),(585,AB),(586,tP),(587,AD),(588,HO),(589,AE),(590,wk),(591,AF),(592,AG),(593,Vb),(594,tQ),(595,sa),(596,wm),(597,wo),(598,HP),(600,AH)]
def TT (k:Nat):Option PF:=OC.lookup k
@[simp] abbrev Zk0 (v0 v1 v2:Int) (v3:List aj) (v4:List Int):List C:=[.ro false (di v0),.ro false (di v1),.ro false (di v2),.own (.sl 2 (v3.map aj.e)),.own (.sl 1 (v4.map eb))]
@[simp] abbrev Zk1 (v0 v1:Int) (v2:ByteArray):List C:=[.ro false (di v0),.ro false (di v1),.ro false (.str v2)]
@[simp] abbrev Zk2 (k:Bool) (v0 v1 v2:Int) (v3:List aj) (v4:List Int):List C:=[.ro false (di v0),.ro false (di v1),.ro false (di v2),.ro k (.sl 2 (v3.map aj.e)),.ro k (.sl 1 (v4.map eb))]
@[simp] theorem t87 (x a b:Int):Gw TT 87 [vi x,vi a,vi b]=some (vb (decide (a≤x)&&decide (x≤b)),[]):=by
 refine dD (F:=AI) rfl rfl ?_;show Wp _ G8 _ _;unfold G8
 repeat' first|refine Zs ?_|((with_reducible refine Xk fun K k=>?_);simp;(repeat' (with_reducible first|refine k _ ?_|(refine aw ?_ ?_<;>(intro hc;(try rw [za] at hc);first|(exfalso;omega)|(try simp [hc])))));all_goals clear k K)|refine Xt rfl ?_|refine Xf rfl ?_
 all_goals first|(simp_all [AI];done)|(simp_all [AI];omega)
@[simp] theorem acs (x a b:Int):Gw TT 377 [vi x,vi a,vi b]=some (vb (decide (a≤x)&&decide (x≤b)),[]):=by
 refine dD (F:=yC) rfl rfl ?_;show Wp _ EM _ _;unfold EM
 repeat' first|refine Zs ?_|((with_reducible refine Xk fun K k=>?_);simp;(repeat' (with_reducible first|refine k _ ?_|(refine aw ?_ ?_<;>(intro hc;(try rw [za] at hc);first|(exfalso;omega)|(try simp [hc])))));all_goals clear k K)|refine Xt rfl ?_|refine Xf rfl ?_
 all_goals first|(simp_all [yC];done)|(simp_all [yC];omega)
def lJ:List Int→Bool
 |[]=>true
 |p::l=>if p≠1∧p≠2 then false else lJ l
def gp (l:List Int):Bool:=lJ l&&(decide (1≤(l.length:Int))&&decide ((l.length:Int)≤3))
def aaV (c:List Int) (s b:Int):Bool:=gp c&&(decide (1≤s)&&decide (s≤4))&&(decide (1≤b)&&decide (b≤8))
@[simp] theorem t12 (l:List Int) (h:l.length≤1048576):Gw TT 12 [.one (.ro k0 (.sl 1 (l.map ei)))]=some (vb (gp l),[]):=by
 refine dD (F:=yv) rfl rfl ?_;show Wp _ Ej _ _;unfold Ej
 repeat' first|refine Zs ?_|((with_reducible refine Xk fun K k=>?_);simp;(repeat' (with_reducible first|refine k _ ?_|(refine aw ?_ ?_<;>(intro hc;(try rw [za] at hc);first|(exfalso;omega)|(try simp [hc])))));all_goals clear k K)|refine Xt rfl ?_|refine Xf rfl ?_|(refine We rfl ?_ ?_<;>(intro hc;(try simp at hc);(all_goals first|(exfalso;omega)|skip)))
 refine ba (σ:=List (Int)×List (Int)) (fun s=>[(0,AV.v k0 (D.sl 1 (l.map ei)),none),(5,AV.v k0 (D.sl 1 (l.map ei)),none),(6,AV.v false (di (l.length:Nat)),none),(7,AV.v false (di ((s.1.length:Nat):Int)),none)]) (fun s=>l=s.1++s.2∧lJ s.2=lJ l) (fun s=>s.2.length) ([],l) (by simp) ⟨rfl,rfl⟩ ?_;rintro ⟨pre,rest⟩ ⟨h1,h2⟩;simp only at h1 h2;subst h1;simp only [zd,zb] at h;rcases rest with _|⟨d,rest⟩
 ·unfold HY;simp only [lJ] at h2
  repeat' first|refine Zs ?_|((with_reducible refine Xk fun K k=>?_);simp;(repeat' (with_reducible first|refine k _ ?_|(refine aw ?_ ?_<;>(intro hc;(try rw [za] at hc);first|(exfalso;omega)|(try simp [hc])))));all_goals clear k K)|refine Xt rfl ?_|refine Xf rfl ?_|(refine We rfl ?_ ?_<;>(intro hc;(try simp at hc);(all_goals first|(exfalso;omega)|skip)))
  simp_all [yv,gp]
 ·unfold HY;simp only [zb] at h;simp only [lJ] at h2;have hw:=Wi ((pre.length:Int)+1) (by omega) (by omega)
  repeat' first|refine Zs ?_|((with_reducible refine Xk fun K k=>?_);simp [hw];(repeat' (with_reducible first|refine k _ ?_|(refine aw ?_ ?_<;>(intro hc;(try rw [za] at hc);first|(exfalso;omega)|(try simp [hc,hw])))));all_goals clear k K)|refine Xt rfl ?_|refine Xf rfl ?_|(refine We rfl ?_ ?_<;>(intro hc;(try simp at hc);(all_goals first|(exfalso;omega)|skip)))
  all_goals first|(refine ⟨(pre++[d],rest),?_,⟨?_,?_⟩,?_⟩;(focus (first|(simp;done)|(simp_all;done)));(focus (simp;done));(focus (refine zq ?_ h2;clear h2;first|(simp [*];done)|(simp_all;done)|(split<;>simp_all<;>omega)|(split<;>first|(exfalso;omega)|(simp_all;done))));(focus (simp;done)))|(simp_all [yv,gp];done)
@[simp] theorem t268 (l:List Int) (h:l.length≤1048576):Gw TT 268 [.one (.ro k0 (.sl 1 (l.map ei)))]=some (vb (gp l),[]):=by
 refine dD (F:=yw) rfl rfl ?_;show Wp _ Eu _ _;unfold Eu
 repeat' first|refine Zs ?_|((with_reducible refine Xk fun K k=>?_);simp;(repeat' (with_reducible first|refine k _ ?_|(refine aw ?_ ?_<;>(intro hc;(try rw [za] at hc);first|(exfalso;omega)|(try simp [hc])))));all_goals clear k K)|refine Xt rfl ?_|refine Xf rfl ?_|(refine We rfl ?_ ?_<;>(intro hc;(try simp at hc);(all_goals first|(exfalso;omega)|skip)))
 refine ba (σ:=List (Int)×List (Int)) (fun s=>[(0,AV.v k0 (D.sl 1 (l.map ei)),none),(3,AV.v false (di ((s.1.length:Nat):Int)),none)]) (fun s=>l=s.1++s.2∧lJ s.2=lJ l) (fun s=>s.2.length) ([],l) (by simp) ⟨rfl,rfl⟩ ?_;rintro ⟨pre,rest⟩ ⟨h1,h2⟩;simp only at h1 h2;subst h1;simp only [zd,zb] at h;rcases rest with _|⟨d,rest⟩
 ·unfold H5;simp only [lJ] at h2
  repeat' first|refine Zs ?_|((with_reducible refine Xk fun K k=>?_);simp;(repeat' (with_reducible first|refine k _ ?_|(refine aw ?_ ?_<;>(intro hc;(try rw [za] at hc);first|(exfalso;omega)|(try simp [hc])))));all_goals clear k K)|refine Xt rfl ?_|refine Xf rfl ?_|(refine We rfl ?_ ?_<;>(intro hc;(try simp at hc);(all_goals first|(exfalso;omega)|skip)))
  simp_all [yw,gp]
 ·unfold H5;simp only [zb] at h;simp only [lJ] at h2;have hw:=Wi ((pre.length:Int)+1) (by omega) (by omega)
  repeat' first|refine Zs ?_|((with_reducible refine Xk fun K k=>?_);simp [hw];(repeat' (with_reducible first|refine k _ ?_|(refine aw ?_ ?_<;>(intro hc;(try rw [za] at hc);first|(exfalso;omega)|(try simp [hc,hw])))));all_goals clear k K)|refine Xt rfl ?_|refine Xf rfl ?_|(refine We rfl ?_ ?_<;>(intro hc;(try simp at hc);(all_goals first|(exfalso;omega)|skip)))
  all_goals first|(refine ⟨(pre++[d],rest),?_,⟨?_,?_⟩,?_⟩;(focus (first|(simp;done)|(simp_all;done)));(focus (simp;done));(focus (refine zq ?_ h2;clear h2;first|(simp [*];done)|(simp_all;done)|(split<;>simp_all<;>omega)|(split<;>first|(exfalso;omega)|(simp_all;done))));(focus (simp;done)))|(split at h2<;>first|(exfalso;omega)|(simp_all [yw,gp];done))
attribute [irreducible] gp
theorem Bx {α β:Type}:∀(l:List α) (m:List β),l.length=m.length→∃z:List (α×β),l=z.map zy∧m=z.map zz
 |[],[],_=>⟨[],rfl,rfl⟩
 |a::l,b::m,h=>by
  obtain ⟨z,rfl,rfl⟩:=Bx l m (by simpa using h);exact ⟨(a,b)::z,rfl,rfl⟩
theorem zip_map {α β:Type} (z:List (α×β)):(z.map zy).zip (z.map zz)=z:=by
 induction z with
 |nil=>rfl
 |cons p z ih=>simp [ih]
def Vl (id:Int):Int→List jc→Int
 |_,[]=>-1
 |i,d::l=>if 0≤id∧d.Op=1∧d.Id=id then i else Vl id (i+1) l
def ix:Int→List ak→Int
 |n,[]=>n
 |n,d::l=>if d.Kind=0 then ix (IntKind.wrap .i64 (n+1)) l else ix n l
@[simp] theorem t20 (l:List ak) (h:l.length≤1048576):Gw TT 20 [.one (.ro k0 (.sl 5 (l.map ak.e)))]=some (vi (ix 0 l),[]):=by
 refine Ga Hb En ?_;unfold En;refine Ud Oo ?_;refine ba (σ:=List (ak)×List (ak)×Int) (fun s=>[(3,AV.v false (di s.2.2),none),(6,AV.v k0 (D.sl 5 (l.map ak.e)),none),(7,AV.v false (di (l.length:Nat)),none),(8,AV.v false (di ((s.1.length:Nat):Int)),none)]) (fun s=>l=s.1++s.2.1∧ix s.2.2 s.2.1=ix 0 l) (fun s=>s.2.1.length) ([],l,0) (by simp) ⟨rfl,rfl⟩ ?_;rintro ⟨pre,rest,a⟩ ⟨h1,h2⟩;simp only at h1 h2;subst h1;simp only [zd,zb] at h;rcases rest with _|⟨d,rest⟩
 ·unfold H3;simp only [ix] at h2;refine Ud Oo ?_;simp_all [Hb]
 ·unfold H3;simp only [zb] at h;simp only [ix] at h2;have hw:=Wi ((pre.length:Int)+1);refine Ud hw ?_ ?_;all_goals repeat intro hc
  all_goals first|(refine ⟨(pre++[d],rest,IntKind.wrap .i64 (a+1)),?_,⟨?_,?_⟩,?_⟩;(focus (first|(simp;done)|(simp_all;done)));(focus (simp;done));(focus (refine zq ?_ h2;clear h2;first|(simp [*];done)|(simp_all;done)|(split<;>simp_all<;>omega)|(split<;>first|(exfalso;omega)|(simp_all;done))));(focus (simp;done)))|(refine ⟨(pre++[d],rest,a),?_,⟨?_,?_⟩,?_⟩;(focus (first|(simp;done)|(simp_all;done)));(focus (simp;done));(focus (refine zq ?_ h2;clear h2;first|(simp [*];done)|(simp_all;done)|(split<;>simp_all<;>omega)|(split<;>first|(exfalso;omega)|(simp_all;done))));(focus (simp;done)))
@[simp] theorem adR {α:Type} {n:Nat} (l r:List α) (h:n=l.length):(l++r).take n=l:=by subst h;simp
def fL (a b:aa):Bool:=a.Ty==b.Ty&&(a.N==b.N&&a.S.toList==b.S.toList)
def abF (a b:Int):Bool:=a==b
def pF:List (aa×aa)→Bool
 |[]=>true
 |d::z=>if fL d.1 d.2=true then pF z else false
def tZ (l m:List aa):Bool:=if l.length=m.length then pF (l.zip m) else false
theorem Wr (z:List (aa×aa)) (h:z.length≤1048576):Gw TT 404 [.one (.ro k0 (.sl 3 (z.map (aa.e∘zy)))),.one (.ro k1 (.sl 3 (z.map (aa.e∘zz))))]=some (vb (pF z),[]):=by
 refine Ga tE vM ?_;unfold vM;refine Ud Oo ?_;refine ba (σ:=List (aa×aa)×List (aa×aa)) (fun s=>[(0,AV.v k0 (D.sl 3 (z.map (aa.e∘zy))),none),(1,AV.v k1 (D.sl 3 (z.map (aa.e∘zz))),none),(12,AV.v false (di (z.length:Nat)),none),(13,AV.v false (di ((s.1.length:Nat):Int)),none)]) (fun s=>z=s.1++s.2∧pF s.2=pF z) (fun s=>s.2.length) ([],z) (by simp) ⟨rfl,rfl⟩ ?_;rintro ⟨pre,rest⟩ ⟨h1,h2⟩;simp only at h1 h2;subst h1;simp only [zd,zb] at h;rcases rest with _|⟨d,rest⟩
 ·unfold Ia;simp only [pF,fL,zm,beq_iff_eq] at h2;refine Ud Oo ?_;simp_all [tE]
 ·unfold Ia;simp only [zb] at h;simp only [pF,fL,zm,beq_iff_eq] at h2;have hw:=Wi ((pre.length:Int)+1);refine Ud hw ?_ ?_;all_goals repeat intro hc
  all_goals first|(refine ⟨(pre++[d],rest),?_,⟨?_,?_⟩,?_⟩;(focus (first|(simp;done)|(simp_all;done)));(focus (simp;done));(focus (refine zq ?_ h2;clear h2;first|(simp [*];done)|(simp_all;done)|(split<;>simp_all<;>omega)|(split<;>first|(exfalso;omega)|(simp_all;done))));(focus (simp;done)))|(split at h2<;>first|(exfalso;omega)|(simp_all [tE];done))
@[simp] theorem acI (l m:List aa) (h:l.length≤1048576) (h1:m.length≤1048576):Gw TT 404 [.one (.ro k0 (.sl 3 (l.map aa.e))),.one (.ro k1 (.sl 3 (m.map aa.e)))]=some (vb (tZ l m),[]):=by
 by_cases hl:l.length=m.length
 ·obtain ⟨z,rfl,rfl⟩:=Bx l m hl;have:=Wr k0 k1 z (by simpa using h);simp only [tZ,hl,if_true,zip_map,zY];exact this
 ·refine dD (F:=tE) rfl rfl ?_;show Wp _ vM _ _;unfold vM;refine Uw Oo ?_;repeat intro hc
  simp_all [tE,tZ]
@[simp] theorem t52 (l m:List aa) (h:l.length≤1048576) (h1:m.length≤1048576):Gw TT 52 [.one (.ro k0 (.sl 3 (l.map aa.e))),.one (.ro k1 (.sl 3 (m.map aa.e)))]=some (vb (tZ l m),[]):=by
 refine Ga HB FJ ?_;unfold FJ;refine Ua (J2 h h1) ?_;simp_all [HB]
def Bh (a b:aj):Bool:=a.jQ==b.jQ&&tZ a.L b.L
def nZ:List (aj×aj)→Bool
 |[]=>true
 |d::z=>if Bh d.1 d.2=true then nZ z else false
def qB (l m:List aj):Bool:=if l.length=m.length then nZ (l.zip m) else false
def B3 (a b:dw):Bool:=a.Next==b.Next&&qB a.L b.L
theorem WT (z:List (aj×aj)) (h:z.length≤1048576) (hs:aj.aq (z.map zy)) (ke:aj.aq (z.map zz)):Gw TT 83 [.st [.ro false (di bC),.ro k0 (.sl 2 (z.map (aj.e∘zy)))],.st [.ro false (di bC),.ro k1 (.sl 2 (z.map (aj.e∘zz)))]]=some (vb (nZ z),[]):=by
 refine Ga tR vQ ?_;unfold vQ;refine Ud Oo ?_;refine ba (σ:=List (aj×aj)×List (aj×aj)) (fun s=>[(2,AV.bx 2 0,some (Rt.bx [.ro false (di bC),.ro k0 (.sl 2 (z.map (aj.e∘zy)))])),(3,AV.bx 3 0,some (Rt.bx [.ro false (di bC),.ro k1 (.sl 2 (z.map (aj.e∘zz)))])),(22,AV.v false (di (z.length:Nat)),none),(23,AV.v false (di ((s.1.length:Nat):Int)),none)]) (fun s=>z=s.1++s.2∧nZ s.2=nZ z) (fun s=>s.2.length) ([],z) (by simp) ⟨rfl,rfl⟩ ?_;rintro ⟨pre,rest⟩ ⟨h1,h2⟩;simp only at h1 h2;subst h1;simp only [zd,zb] at h;rcases rest with _|⟨d,rest⟩
 ·unfold I9;simp only [nZ,Bh,zm,beq_iff_eq] at h2;refine Ud Oo ?_;simp_all [tR]
 ·unfold I9;simp only [zb] at h;simp only [nZ,Bh,zm,beq_iff_eq] at h2;have hw:=Wi ((pre.length:Int)+1);have eQ:=hs d.1 (by simp);have bp:=ke d.2 (by simp);simp only [aj.sm] at eQ bp;obtain ⟨gU,lM⟩:=eQ;obtain ⟨dh,dK⟩:=bp;refine Ud (J3 hw gU dh) ?_ ?_ ?_;all_goals repeat intro hc
  all_goals first|(refine ⟨(pre++[d],rest),?_,⟨?_,?_⟩,?_⟩;(focus (first|(simp;done)|(simp_all;done)));(focus (simp;done));(focus (refine zq ?_ h2;clear h2;first|(simp [*];done)|(simp_all;done)|(split<;>simp_all<;>omega)|(split<;>first|(exfalso;omega)|(simp_all;done))));(focus (simp;done)))|(simp_all [tR];done)
@[simp] theorem t83 (bC JF:Int) (bh b9:List aj) (h:bh.length≤1048576) (hs:aj.aq bh) (h1:b9.length≤1048576) (ke:aj.aq b9):Gw TT 83 [.st [.ro false (di bC),.ro k0 (.sl 2 (bh.map aj.e))],.st [.ro false (di JF),.ro k1 (.sl 2 (b9.map aj.e))]]=some (vb (bC==JF&&qB bh b9),[]):=by
 by_cases hl:bC=JF∧bh.length=b9.length
 ·obtain ⟨rfl,hl⟩:=hl;obtain ⟨z,rfl,rfl⟩:=Bx bh b9 hl;have:=WT k0 k1 bC z (by simpa using h) hs ke;simp only [qB,hl,if_true,zip_map,zY,BEq.rfl,Bool.true_and];exact this
 ·refine dD (F:=tR) rfl rfl ?_;show Wp _ vQ _ _;unfold vQ;refine Ud Oo ?_ ?_;all_goals repeat intro hc
  all_goals simp_all [tR,qB]
def strOf (l:List Int):ByteArray:=⟨(l.map fun n=>zD n.toNat).toArray⟩
@[simp] theorem Kg (l:List Int):mr (l.map eb)=some (l.map fun n=>zD n.toNat):=by
 induction l with
 |nil=>rfl
 |cons n l ih=>
  have:mr (List.map eb (n::l))=match mr (l.map eb) with
   |some bs=>some (zD n.toNat::bs)
   |none=>none:=rfl
  rw [this,ih];try rfl
@[simp] theorem t1 (l m:List Int):Gw TT 1 [.one (.ro k0 (.sl 1 (l.map eb))),.one (.ro k1 (.sl 1 (m.map eb)))]=some (vb ((strOf l).toList==(strOf m).toList),[]):=by
 refine Ga G_ Eh ?_;unfold Eh;refine Ua Oo ?_;simp_all [G_,strOf]
@[simp] theorem acH (l m:List Int):Gw TT 402 [.one (.ro k0 (.sl 1 (l.map eb))),.one (.ro k1 (.sl 1 (m.map eb)))]=some (vb ((strOf l).toList==(strOf m).toList),[]):=by
 refine Ga Hq E6 ?_;unfold E6;refine Ua Oo ?_;simp_all [Hq,strOf]
def xb (a b:ak):Bool:=a.dV==b.dV&&a.Kind==b.Kind&&B3 a.C b.C&&((strOf a.G).toList==(strOf b.G).toList)
@[simp] theorem t45 (OZ O0 OY:Int) (Bv:List aj) (JE:List Int) (DL:ep.length≤1048576) (DN:aj.aq ep) (DM:du.length≤1048576) (SJ:Bv.length≤1048576) (SL:aj.aq Bv) (SK:JE.length≤1048576):Gw TT 45 [.st [.ro false (di mc),.ro false (di gI),.ro false (di fD),.ro k0 (.sl 2 (ep.map aj.e)),.ro k0 (.sl 1 (du.map eb))],.st [.ro false (di OZ),.ro false (di O0),.ro false (di OY),.ro k1 (.sl 2 (Bv.map aj.e)),.ro k1 (.sl 1 (JE.map eb))]]=some (vb (xb ⟨mc,gI,⟨fD,ep⟩,du⟩ ⟨OZ,O0,⟨OY,Bv⟩,JE⟩),[]):=by
 refine Ga Hw Ff ?_;unfold Ff;refine Ud (J6 DL DN DM SJ SL SK) ?_ ?_ ?_ ?_;all_goals repeat intro hc
 all_goals simp_all [Hw,xb,B3]
def oq:List (ak×ak)→Bool
 |[]=>true
 |d::z=>if xb d.1 d.2=true then oq z else false
def wD (l m:List ak):Bool:=if l.length=m.length then oq (l.zip m) else false
theorem Wu (z:List (ak×ak)) (h:z.length≤1048576) (hs:ak.aq (z.map zy)) (ke:ak.aq (z.map zz)):Gw TT 48 [.one (.ro k0 (.sl 5 (z.map (ak.e∘zy)))),.one (.ro k1 (.sl 5 (z.map (ak.e∘zz))))]=some (vb (oq z),[]):=by
 refine Ga tG vO ?_;unfold vO;refine Ud Oo ?_;refine ba (σ:=List (ak×ak)×List (ak×ak)) (fun s=>[(0,AV.v k0 (D.sl 5 (z.map (ak.e∘zy))),none),(1,AV.v k1 (D.sl 5 (z.map (ak.e∘zz))),none),(12,AV.v false (di (z.length:Nat)),none),(13,AV.v false (di ((s.1.length:Nat):Int)),none)]) (fun s=>z=s.1++s.2∧oq s.2=oq z) (fun s=>s.2.length) ([],z) (by simp) ⟨rfl,rfl⟩ ?_;rintro ⟨pre,rest⟩ ⟨h1,h2⟩;simp only at h1 h2;subst h1;simp only [zd,zb] at h;rcases rest with _|⟨d,rest⟩
 ·unfold Im;simp only [oq,true_and,zm,beq_iff_eq] at h2;refine Ud Oo ?_;simp_all [tG]
 ·unfold Im;simp only [zb] at h;simp only [oq,true_and,zm,beq_iff_eq] at h2;have hw:=Wi ((pre.length:Int)+1);have eQ:=hs d.1 (by simp);have bp:=ke d.2 (by simp);simp only [ak.sm,dw.sm,and_assoc] at eQ bp;obtain ⟨gU,lM,Rf⟩:=eQ;obtain ⟨dh,dK,sW⟩:=bp;refine Ud (J7 hw gU lM Rf dh dK sW) ?_ ?_;all_goals repeat intro hc
  all_goals first|(refine ⟨(pre++[d],rest),?_,⟨?_,?_⟩,?_⟩;(focus (first|(simp;done)|(simp_all;done)));(focus (simp;done));(focus (refine zq ?_ h2;clear h2;first|(simp [*];done)|(simp_all;done)|(split<;>simp_all<;>omega)|(split<;>first|(exfalso;omega)|(simp_all;done))));(focus (simp;done)))|(simp_all [tG];done)
@[simp] theorem t48 (l m:List ak) (h:l.length≤1048576) (h1:m.length≤1048576) (hs:ak.aq l) (ke:ak.aq m):Gw TT 48 [.one (.ro k0 (.sl 5 (l.map ak.e))),.one (.ro k1 (.sl 5 (m.map ak.e)))]=some (vb (wD l m),[]):=by
 by_cases hl:l.length=m.length
 ·obtain ⟨z,rfl,rfl⟩:=Bx l m hl;have:=Wu k0 k1 z (by simpa using h) hs ke;simp only [wD,hl,if_true,zip_map,zY];exact this
 ·refine dD (F:=tG) rfl rfl ?_;show Wp _ vO _ _;unfold vO;refine Uw Oo ?_;repeat intro hc
  simp_all [tG,wD]
@[simp] theorem aa5:fZ []=true:=rfl
@[simp] theorem xw {α:Type} (f:α→List D) (l:List α) (h:∀x,(f x).all D.bF=true):fZ (l.map f)=true:=by
 simp only [fZ,List.all_map,Zc,Function.comp];exact fun x _=>Zc.1 (h x)
@[simp] theorem aa6 (e:List D) (l:List (List D)):fZ (e::l)=(e.all D.bF&&fZ l):=rfl
@[simp] theorem aa4 (l m:List (List D)):fZ (l++m)=(fZ l&&fZ m):=by simp [fZ]
@[simp] theorem abK (k:IntKind) (n:Int):(D.int k n).live=true:=rfl
@[simp] theorem abJ (b:Bool):(D.bool b).live=true:=rfl
@[simp] theorem abM:(D.str s).live=true:=rfl
@[simp] theorem abL (sz:Nat) (es:List (List D)):(D.sl sz es).live=true:=rfl
@[simp] theorem aaR (x:UInt8):(ByteArray.mk #[x]).size=1:=rfl
@[simp] theorem adO {α:Type} {n:Nat} (l r:List α) (x:α) (h:n=l.length+(r.length+1)):(l++x::r).take n=l++x::r:=by
 rw [zR];simp only [zd,zb];omega
@[simp] theorem aaY {α:Type} {n:Nat} (l r:List α) (x:α) (h:n=l.length+1):(l++x::r).drop n=r:=by
 subst h;rw [List.drop_append];simp
@[simp] theorem adP {α β:Type} (f:α→β) (l:List α):(l.map f).take l.length=l.map f:=by
 rw [zR];simp
@[simp] theorem Qx {α:Type} (f:α→List D) (l:List α) (n:Nat) (h:∀x,(f x).all D.bF=true):fZ ((l.map f).drop n)=true:=by
 rw [←List.map_drop];exact xw f _ h
@[simp] theorem aa7 {α:Type} (f:α→List D) (l:List α) (n:Nat) (h:∀x,(f x).all D.bF=true):fZ ((l.map f).take n)=true:=by
 rw [←List.map_take];exact xw f _ h
@[simp] theorem t76 (h:l.length≤1048576):Gw TT 76 [.one (.ro k0 (.sl 3 (l.map aa.e)))]=some (.one (.own (.sl 3 (l.map aa.e))),[]):=by
 refine dD (F:=HT) rfl rfl ?_;show Wp _ G5 _ _;unfold G5
 repeat' first|refine Zs ?_|((with_reducible refine Xk fun K k=>?_);simp [h];(repeat' (with_reducible first|refine k _ ?_|(refine aw ?_ ?_<;>(intro hc;(try rw [za] at hc);first|(exfalso;omega)|(try simp [hc,h])))));all_goals clear k K)|refine Xt rfl ?_|refine Xf rfl ?_
 simp [HT]
@[simp] theorem t69 (l:List Int) (h:l.length≤1048576):Gw TT 69 [.one (.ro k0 (.sl 1 (l.map eb)))]=some (.one (.own (.sl 1 (l.map eb))),[]):=by
 refine dD (F:=HQ) rfl rfl ?_;show Wp _ G2 _ _;unfold G2
 repeat' first|refine Zs ?_|((with_reducible refine Xk fun K k=>?_);simp [h];(repeat' (with_reducible first|refine k _ ?_|(refine aw ?_ ?_<;>(intro hc;(try rw [za] at hc);first|(exfalso;omega)|(try simp [hc,h])))));all_goals clear k K)|refine Xt rfl ?_|refine Xf rfl ?_
 simp [HQ]
@[simp] theorem t70 (h:bh.length≤1048576) (hs:aj.aq bh):Gw TT 70 [.st [.ro false (di bC),.ro k0 (.sl 2 (bh.map aj.e))]]=some (.st [.ro false (di bC),.own (.sl 2 (bh.map aj.e))],[]):=by
 refine dD (F:=HR) rfl rfl ?_;show Wp _ G3 _ _;unfold G3
 repeat' first|refine Zs ?_|((with_reducible refine Xk fun K k=>?_);simp;(repeat' (with_reducible first|refine k _ ?_|(refine aw ?_ ?_<;>(intro hc;(try rw [za] at hc);first|(exfalso;omega)|(try simp [hc])))));all_goals clear k K)|refine Xt rfl ?_|refine Xf rfl ?_|(refine We rfl ?_ ?_<;>(intro hc;(try simp at hc);(all_goals first|(exfalso;omega)|skip)))
 refine ba (σ:=List (aj)×List (aj)×List (aj)) (fun s=>[(1,AV.bx 1 0,some (Rt.bx [.ro false (di bC),.ro k0 (.sl 2 (bh.map aj.e))])),(2,AV.bx 2 0,some (Rt.bx [.ro false (di 0),.own (.sl 2 [])])),(3,AV.bx 3 0,some (Rt.bx [.ro false (di bC),.own (.sl 2 ((s.2.2).map aj.e))])),(10,AV.v k0 (D.sl 2 (bh.map aj.e)),none),(11,AV.v false (di (bh.length:Nat)),none),(12,AV.v false (di ((s.1.length:Nat):Int)),none)]) (fun s=>bh=s.1++s.2.1∧s.2.2++s.2.1=bh∧s.2.2.length≤s.1.length) (fun s=>s.2.1.length) ([],bh,[]) (by simp) ⟨rfl,by first|rfl|simp,zw _⟩ ?_;rintro ⟨pre,rest,a⟩ ⟨h1,h2,h3⟩;simp only at h1 h2 h3;subst h1;simp only [zd,zb] at h;rcases rest with _|⟨d,rest⟩
 ·unfold I7;try simp only [zn,zn] at h2
  repeat' first|refine Zs ?_|((with_reducible refine Xk fun K k=>?_);simp;(repeat' (with_reducible first|refine k _ ?_|(refine aw ?_ ?_<;>(intro hc;(try rw [za] at hc);first|(exfalso;omega)|(try simp [hc])))));all_goals clear k K)|refine Xt rfl ?_|refine Xf rfl ?_|(refine We rfl ?_ ?_<;>(intro hc;(try simp at hc);(all_goals first|(exfalso;omega)|skip)))
  simp_all [HR]
 ·unfold I7;simp only [zb] at h;try simp only [zn] at h2
  have hw:IntKind.wrap .i64 ((pre.length:Int)+1)=(pre.length:Int)+1:=wrap_i64 (by omega) (by omega);have hd:=hs d (by simp);simp only [aj.sm,and_assoc] at hd;obtain ⟨vj,vm⟩:=hd;have cv:(a.length+1)*32≤70368744177664:=by omega
  have dY:d.L.length*32≤70368744177664:=by omega
  repeat' first|refine Zs ?_|((with_reducible refine Xk fun K k=>?_);simp [hw,vj,vm,cv,dY];(repeat' (with_reducible first|refine k _ ?_|(refine aw ?_ ?_<;>(intro hc;(try rw [za] at hc);first|(exfalso;omega)|(try simp [hc,hw,vj,vm,cv,dY])))));all_goals clear k K)|refine Xt rfl ?_|refine Xf rfl ?_|(refine We rfl ?_ ?_<;>(intro hc;(try simp at hc);(all_goals first|(exfalso;omega)|skip)))
  (refine ⟨(pre++[d],rest,a++[d]),?_,⟨?_,?_,?_⟩,?_⟩;(focus (first|(simp;done)|(simp_all;done)));(focus (simp;done));(focus (refine zq ?_ h2;clear h2;first|(simp [*];done)|(simp_all;done)));(focus (simp only [zd,zb,zg];omega));(focus (simp;done)))
@[simp] theorem t359 (h:bh.length≤1048576) (hs:aj.aq bh):Gw TT 359 [.st [.ro false (di bC),.ro k0 (.sl 2 (bh.map aj.e))]]=some (.st [.ro false (di bC),.own (.sl 2 (bh.map aj.e))],[]):=by
 refine dD (F:=yA) rfl rfl ?_;show Wp _ EG _ _;unfold EG
 repeat' first|refine Zs ?_|((with_reducible refine Xk fun K k=>?_);simp;(repeat' (with_reducible first|refine k _ ?_|(refine aw ?_ ?_<;>(intro hc;(try rw [za] at hc);first|(exfalso;omega)|(try simp [hc])))));all_goals clear k K)|refine Xt rfl ?_|refine Xf rfl ?_|(refine We rfl ?_ ?_<;>(intro hc;(try simp at hc);(all_goals first|(exfalso;omega)|skip)))
 refine ba (σ:=List (aj)×List (aj)×List (aj)) (fun s=>[(1,AV.bx 1 0,some (Rt.bx [.ro false (di bC),.ro k0 (.sl 2 (bh.map aj.e))])),(2,AV.bx 2 0,some (Rt.bx [.ro false (di 0),.own (.sl 2 [])])),(3,AV.bx 3 0,some (Rt.bx [.ro false (di bC),.own (.sl 2 ((s.2.2).map aj.e))])),(4,AV.v false (di ((s.1.length:Nat):Int)),none)]) (fun s=>bh=s.1++s.2.1∧s.2.2++s.2.1=bh∧s.2.2.length≤s.1.length) (fun s=>s.2.1.length) ([],bh,[]) (by simp) ⟨rfl,by first|rfl|simp,zw _⟩ ?_;rintro ⟨pre,rest,a⟩ ⟨h1,h2,h3⟩;simp only at h1 h2 h3;subst h1;simp only [zd,zb] at h;rcases rest with _|⟨d,rest⟩
 ·unfold H7;try simp only [zn,zn] at h2
  repeat' first|refine Zs ?_|((with_reducible refine Xk fun K k=>?_);simp;(repeat' (with_reducible first|refine k _ ?_|(refine aw ?_ ?_<;>(intro hc;(try rw [za] at hc);first|(exfalso;omega)|(try simp [hc])))));all_goals clear k K)|refine Xt rfl ?_|refine Xf rfl ?_|(refine We rfl ?_ ?_<;>(intro hc;(try simp at hc);(all_goals first|(exfalso;omega)|skip)))
  simp_all [yA]
 ·unfold H7;simp only [zb] at h;try simp only [zn] at h2
  have hw:IntKind.wrap .i64 ((pre.length:Int)+1)=(pre.length:Int)+1:=wrap_i64 (by omega) (by omega);have hd:=hs d (by simp);simp only [aj.sm,and_assoc] at hd;obtain ⟨vj,vm⟩:=hd;have cv:(a.length+1)*32≤70368744177664:=by omega
  have dY:d.L.length*32≤70368744177664:=by omega
  repeat' first|refine Zs ?_|((with_reducible refine Xk fun K k=>?_);simp [hw,vj,vm,cv,dY];(repeat' (with_reducible first|refine k _ ?_|(refine aw ?_ ?_<;>(intro hc;(try rw [za] at hc);first|(exfalso;omega)|(try simp [hc,hw,vj,vm,cv,dY])))));all_goals clear k K)|refine Xt rfl ?_|refine Xf rfl ?_|(refine We rfl ?_ ?_<;>(intro hc;(try simp at hc);(all_goals first|(exfalso;omega)|skip)))
  all_goals first|(refine ⟨(pre++[d],rest,a++[d]),?_,⟨?_,?_,?_⟩,?_⟩;(focus (first|(simp;done)|(simp_all;done)));(focus (simp;done));(focus (refine zq ?_ h2;clear h2;first|(simp [*];done)|(simp_all;done)));(focus (simp only [zd,zb,zg];omega));(focus (simp;done)))|(simp_all [yA];done)
@[simp] theorem t73 (l:List ak) (h:l.length≤1048576) (hs:ak.aq l):Gw TT 73 [.one (.ro k0 (.sl 5 (l.map ak.e)))]=some (.one (.own (.sl 5 (l.map ak.e))),[]):=by
 refine dD (F:=HS) rfl rfl ?_;show Wp _ G4 _ _;unfold G4
 repeat' first|refine Zs ?_|((with_reducible refine Xk fun K k=>?_);simp;(repeat' (with_reducible first|refine k _ ?_|(refine aw ?_ ?_<;>(intro hc;(try rw [za] at hc);first|(exfalso;omega)|(try simp [hc])))));all_goals clear k K)|refine Xt rfl ?_|refine Xf rfl ?_|(refine We rfl ?_ ?_<;>(intro hc;(try simp at hc);(all_goals first|(exfalso;omega)|skip)))
 refine ba (σ:=List (ak)×List (ak)×List (ak)) (fun s=>[(3,AV.pl 3 0 [],some (Rt.an [C.own (D.sl 5 ((s.2.2).map ak.e))])),(7,AV.v k0 (D.sl 5 (l.map ak.e)),none),(8,AV.v false (di (l.length:Nat)),none),(9,AV.v false (di ((s.1.length:Nat):Int)),none)]) (fun s=>l=s.1++s.2.1∧s.2.2++s.2.1=l∧s.2.2.length≤s.1.length) (fun s=>s.2.1.length) ([],l,[]) (by simp) ⟨rfl,by first|rfl|simp,zw _⟩ ?_;rintro ⟨pre,rest,a⟩ ⟨h1,h2,h3⟩;simp only at h1 h2 h3;subst h1;simp only [zd,zb] at h;rcases rest with _|⟨d,rest⟩
 ·unfold I8;try simp only [zn,zn] at h2
  repeat' first|refine Zs ?_|((with_reducible refine Xk fun K k=>?_);simp;(repeat' (with_reducible first|refine k _ ?_|(refine aw ?_ ?_<;>(intro hc;(try rw [za] at hc);first|(exfalso;omega)|(try simp [hc])))));all_goals clear k K)|refine Xt rfl ?_|refine Xf rfl ?_|(refine We rfl ?_ ?_<;>(intro hc;(try simp at hc);(all_goals first|(exfalso;omega)|skip)))
  simp_all [HS]
 ·unfold I8;simp only [zb] at h;try simp only [zn] at h2
  have hw:IntKind.wrap .i64 ((pre.length:Int)+1)=(pre.length:Int)+1:=wrap_i64 (by omega) (by omega);have hd:=hs d (by simp);simp only [ak.sm,dw.sm,and_assoc] at hd;obtain ⟨vg,vk,vh⟩:=hd;have cv:(a.length+1)*72≤70368744177664:=by omega
  have dY:d.G.length≤70368744177664:=by omega
  repeat' first|refine Zs ?_|((with_reducible refine Xk fun K k=>?_);simp [hw,vg,vk,vh,cv,dY];(repeat' (with_reducible first|refine k _ ?_|(refine aw ?_ ?_<;>(intro hc;(try rw [za] at hc);first|(exfalso;omega)|(try simp [hc,hw,vg,vk,vh,cv,dY])))));all_goals clear k K)|refine Xt rfl ?_|refine Xf rfl ?_|(refine We rfl ?_ ?_<;>(intro hc;(try simp at hc);(all_goals first|(exfalso;omega)|skip)))
  (refine ⟨(pre++[d],rest,a++[d]),?_,⟨?_,?_,?_⟩,?_⟩;(focus (first|(simp;done)|(simp_all;done)));(focus (simp;done));(focus (refine zq ?_ h2;clear h2;first|(simp [*];done)|(simp_all;done)));(focus (simp only [zd,zb,zg];omega));(focus (simp;done)))
@[simp] theorem t363 (DL:ep.length≤1048576) (DN:aj.aq ep) (DM:du.length≤1048576):Gw TT 363 [.st [.ro false (di mc),.ro false (di gI),.ro false (di fD),.ro k0 (.sl 2 (ep.map aj.e)),.ro k0 (.sl 1 (du.map eb))]]=some (.st [.ro false (di mc),.ro false (di gI),.ro false (di fD),.own (.sl 2 (ep.map aj.e)),.own (.sl 1 (du.map eb))],[]):=by
 refine dD (F:=Hi) rfl rfl ?_;show Wp _ EJ _ _;unfold EJ;have hq:du.length≤70368744177664:=by omega
 repeat' first|refine Zs ?_|((with_reducible refine Xk fun K k=>?_);simp [hq,DL,DN,DM];refine k _ ?_;clear k K)|refine Xt rfl ?_|refine Xf rfl ?_
 simp [Hi]
@[simp] theorem t362 (l:List ak) (h:l.length≤1048576) (hs:ak.aq l):Gw TT 362 [.one (.ro k0 (.sl 5 (l.map ak.e)))]=some (.one (.own (.sl 5 (l.map ak.e))),[]):=by
 refine dD (F:=Hh) rfl rfl ?_;show Wp _ EI _ _;unfold EI
 repeat' first|refine Zs ?_|((with_reducible refine Xk fun K k=>?_);simp;(repeat' (with_reducible first|refine k _ ?_|(refine aw ?_ ?_<;>(intro hc;(try rw [za] at hc);first|(exfalso;omega)|(try simp [hc])))));all_goals clear k K)|refine Xt rfl ?_|refine Xf rfl ?_|(refine We rfl ?_ ?_<;>(intro hc;(try simp at hc);(all_goals first|(exfalso;omega)|skip)))
 refine ba (σ:=List (ak)×List (ak)×List (ak)) (fun s=>[(0,AV.v k0 (D.sl 5 (l.map ak.e)),none),(3,AV.pl 3 0 [],some (Rt.an [C.own (D.sl 5 ((s.2.2).map ak.e))])),(4,AV.v false (di ((s.1.length:Nat):Int)),none)]) (fun s=>l=s.1++s.2.1∧s.2.2++s.2.1=l∧s.2.2.length≤s.1.length) (fun s=>s.2.1.length) ([],l,[]) (by simp) ⟨rfl,by first|rfl|simp,zw _⟩ ?_;rintro ⟨pre,rest,a⟩ ⟨h1,h2,h3⟩;simp only at h1 h2 h3;subst h1;simp only [zd,zb] at h;rcases rest with _|⟨d,rest⟩
 ·unfold H9;try simp only [zn,zn] at h2
  repeat' first|refine Zs ?_|((with_reducible refine Xk fun K k=>?_);simp;(repeat' (with_reducible first|refine k _ ?_|(refine aw ?_ ?_<;>(intro hc;(try rw [za] at hc);first|(exfalso;omega)|(try simp [hc])))));all_goals clear k K)|refine Xt rfl ?_|refine Xf rfl ?_|(refine We rfl ?_ ?_<;>(intro hc;(try simp at hc);(all_goals first|(exfalso;omega)|skip)))
  simp_all [Hh]
 ·unfold H9;simp only [zb] at h;try simp only [zn] at h2
  have hw:IntKind.wrap .i64 ((pre.length:Int)+1)=(pre.length:Int)+1:=wrap_i64 (by omega) (by omega);have hd:=hs d (by simp);simp only [ak.sm,dw.sm,and_assoc] at hd;obtain ⟨vg,vk,vh⟩:=hd;have cv:(a.length+1)*72≤70368744177664:=by omega
  have dY:d.G.length≤70368744177664:=by omega
  repeat' first|refine Zs ?_|((with_reducible refine Xk fun K k=>?_);simp [hw,vg,vk,vh,cv,dY];(repeat' (with_reducible first|refine k _ ?_|(refine aw ?_ ?_<;>(intro hc;(try rw [za] at hc);first|(exfalso;omega)|(try simp [hc,hw,vg,vk,vh,cv,dY])))));all_goals clear k K)|refine Xt rfl ?_|refine Xf rfl ?_|(refine We rfl ?_ ?_<;>(intro hc;(try simp at hc);(all_goals first|(exfalso;omega)|skip)))
  (refine ⟨(pre++[d],rest,a++[d]),?_,⟨?_,?_,?_⟩,?_⟩;(focus (first|(simp;done)|(simp_all;done)));(focus (simp;done));(focus (refine zq ?_ h2;clear h2;first|(simp [*];done)|(simp_all;done)));(focus (simp only [zd,zb,zg];omega));(focus (simp;done)))
def wJ (n s:Int):Bool:=decide (n=-1∧0<s)
def wK (n s:Int):Int:=if n=-1∧0<s then s else n
@[simp] theorem t335 (n s:Int):Gw TT 335 [vi n,vi s]=some (.a_ [vi (wK n s),vb (wJ n s)],[]):=by
 refine dD (F:=vV) rfl rfl ?_;show Wp _ Ez _ _;unfold Ez;by_cases h1:n=-1
 ·by_cases h2:0<s
  ·repeat' first|refine Zs ?_|((with_reducible refine Xk fun K k=>?_);simp [h1,h2];refine k _ ?_;clear k K)|refine Xt rfl ?_|refine Xf rfl ?_|(refine We rfl ?_ ?_<;>(intro hc;(try simp at hc);(all_goals first|(exfalso;omega)|skip)))
   simp [vV,wK,wJ,h1,h2]
  ·repeat' first|refine Zs ?_|((with_reducible refine Xk fun K k=>?_);simp [h1,h2];refine k _ ?_;clear k K)|refine Xt rfl ?_|refine Xf rfl ?_|(refine We rfl ?_ ?_<;>(intro hc;(try simp at hc);(all_goals first|(exfalso;omega)|skip)))
   simp [vV,wK,wJ,h1,h2]
 ·repeat' first|refine Zs ?_|((with_reducible refine Xk fun K k=>?_);simp [h1];refine k _ ?_;clear k K)|refine Xt rfl ?_|refine Xf rfl ?_|(refine We rfl ?_ ?_<;>(intro hc;(try simp at hc);(all_goals first|(exfalso;omega)|skip)))
  simp [vV,wK,wJ,h1]
def kT (n:Int) (l:List aj):Int:=if 0≤n∧n<(l.length:Int) then n+1 else n
def lx (n:Int) (l:List aj):Int:=if 0≤n∧n<(l.length:Int) then n else -1
@[simp] theorem t323 (h:bh.length≤1048576) (hs:aj.aq bh):Gw TT 323 [.st [.ro false (di bC),.ro k0 (.sl 2 (bh.map aj.e))]]=some (.a_ [.st [.ro false (di (kT bC bh)),.own (.sl 2 (bh.map aj.e))],vi (lx bC bh)],[]):=by
 refine dD (F:=yy) rfl rfl ?_;show Wp _ Ey _ _;unfold Ey;have hw:IntKind.wrap .i64 ((bh.length:Int)-1)=(bh.length:Int)-1:=wrap_i64 (by omega) (by omega);by_cases hb:0≤bC∧bC<(bh.length:Int)
 ·have ea:IntKind.wrap .i64 (bC+1)=bC+1:=wrap_i64 (by omega) (by omega)
  repeat' first|refine Zs ?_|((with_reducible refine Xk fun K k=>?_);simp [h,hs,hw,ea];refine k _ ?_;clear k K)|refine Xt rfl ?_|refine Xf rfl ?_|(refine We rfl ?_ ?_<;>(intro hc;(try simp at hc);(all_goals first|(exfalso;omega)|skip)))
  simp [yy,kT,lx,hb]
 ·repeat' first|refine Zs ?_|((with_reducible refine Xk fun K k=>?_);simp [h,hs,hw];refine k _ ?_;clear k K)|refine Xt rfl ?_|refine Xf rfl ?_|(refine We rfl ?_ ?_<;>(intro hc;(try simp at hc);(all_goals first|(exfalso;omega)|skip)))
  simp [yy,kT,lx,hb]
def np (i s:Int) (l:List aj):List aj:=match l[i.toNat]? with
 |some x=>if 0≤i then l.set i.toNat ⟨wK x.jQ s,x.L⟩ else l
 |none=>l
def Bk (i s:Int) (l:List aj):Bool:=match l[i.toNat]? with
 |some x=>if 0≤i then wJ x.jQ s else false
 |none=>false
theorem V' (i s:Int) (l:List aj):(np i s l).length=l.length:=by
 unfold np;split
 ·split<;>simp
 ·rfl
theorem Wa (i s:Int) (l:List aj) (h:aj.aq l):aj.aq (np i s l):=by
 unfold np;split
 ·rename_i x hx;split
  ·intro y hy;rcases zt hy with hy|rfl
   ·exact h y hy
   ·have:=h x (zu hx);simpa [aj.sm] using this
  ·exact h
 ·exact h
@[simp] theorem t336 (i s:Int) (h:bh.length≤1048576) (hs:aj.aq bh):Gw TT 336 [.st [.ro false (di bC),.ro k0 (.sl 2 (bh.map aj.e))],vi i,vi s]=some (.a_ [.st [.ro false (di bC),.own (.sl 2 ((np i s bh).map aj.e))],vb (Bk i s bh)],[]):=by
 refine dD (F:=yz) rfl rfl ?_;show Wp _ EA _ _;unfold EA;have hw:IntKind.wrap .i64 ((bh.length:Int)-1)=(bh.length:Int)-1:=wrap_i64 (by omega) (by omega);by_cases hb:0≤i∧i<(bh.length:Int)
 ·obtain ⟨dR,dh⟩:=hb;obtain ⟨x,hx⟩:∃x,bh[i.toNat]?=some x:=⟨_,zo (by omega)⟩;obtain ⟨ae,he⟩:=zf.1 hx
  repeat' first|refine Zs ?_|((with_reducible refine Xk fun K k=>?_);simp [h,hs,hw,dR,dh,ae,hx,he];refine k _ ?_;clear k K)|refine Xt rfl ?_|refine Xf rfl ?_|(refine We rfl ?_ ?_<;>(intro hc;(try simp at hc);(all_goals first|(exfalso;omega)|skip)))
  simp [yz,np,Bk,hx,dR,he]
 ·have hf:np i s bh=bh:=by
   unfold np;split
   ·rename_i y hy;have:=(zf.1 hy).1;rw [if_neg (by omega)]
   ·rfl
  have hg:Bk i s bh=false:=by
   unfold Bk;split
   ·rename_i y hy;have:=(zf.1 hy).1;rw [if_neg (by omega)]
   ·rfl
  repeat' first|refine Zs ?_|((with_reducible refine Xk fun K k=>?_);simp [h,hs,hw];refine k _ ?_;clear k K)|refine Xt rfl ?_|refine Xf rfl ?_|(refine We rfl ?_ ?_<;>(intro hc;(try simp at hc);(all_goals first|(exfalso;omega)|skip)))
  simp [yz,hf,hg]
def l6 (n:Int):List ak:=zx (if 0≤n∧n≤8 then n.toNat else 0) ⟨0,0,⟨0,[]⟩,[]⟩
theorem Nt:(l6 n).length≤1048576:=by
 unfold l6;simp only [zS];split<;>omega
theorem Ve:ak.aq (l6 n):=by
 intro y hy;obtain ⟨_,rfl⟩:=zZ.1 hy;simp [ak.sm,dw.sm,aj.aq]
@[simp] theorem t39:Gw TT 39 [vi n]=some (.one (.own (.sl 5 ((l6 n).map ak.e))),[]):=by
 refine dD (F:=yF) rfl rfl ?_;show Wp _ EW _ _;unfold EW;by_cases hb:0≤n∧n≤8
 ·obtain ⟨dR,dh⟩:=hb
  repeat' first|refine Zs ?_|((with_reducible refine Xk fun K k=>?_);simp [dR,dh];(repeat' (with_reducible first|refine k _ ?_|(refine aw ?_ ?_<;>(intro hc;(try rw [za] at hc);first|(exfalso;omega)|(try simp [hc,dR,dh])))));all_goals clear k K)|refine Xt rfl ?_|refine Xf rfl ?_|(refine We rfl ?_ ?_<;>(intro hc;(try simp at hc);(all_goals first|(exfalso;omega)|skip)))
  simp [yF,l6,dR,dh]
 ·repeat' first|refine Zs ?_|((with_reducible refine Xk fun K k=>?_);simp;(repeat' (with_reducible first|refine k _ ?_|(refine aw ?_ ?_<;>(intro hc;(try rw [za] at hc);first|(exfalso;omega)|(try simp [hc])))));all_goals clear k K)|refine Xt rfl ?_|refine Xf rfl ?_|(refine We rfl ?_ ?_<;>(intro hc;(try simp at hc);(all_goals first|(exfalso;omega)|skip)))
  simp [yF,l6,hb]
@[simp] theorem t319:Gw TT 319 [vi n]=some (.one (.own (.sl 5 ((l6 n).map ak.e))),[]):=by
 refine dD (F:=yx) rfl rfl ?_;show Wp _ Ex _ _;unfold Ex;by_cases hb:0≤n∧n≤8
 ·obtain ⟨m,rfl⟩:∃m:Nat,n=(m:Int):=⟨n.toNat,by omega⟩
  repeat' first|refine Zs ?_|((with_reducible refine Xk fun K k=>?_);simp;(repeat' (with_reducible first|refine k _ ?_|(refine aw ?_ ?_<;>(intro hc;(try rw [za] at hc);first|(exfalso;omega)|(try simp [hc])))));all_goals clear k K)|refine Xt rfl ?_|refine Xf rfl ?_|(refine We rfl ?_ ?_<;>(intro hc;(try simp at hc);(all_goals first|(exfalso;omega)|skip)))
  refine ba (σ:=Nat) (fun s=>[(0,AV.v false (di (m:Int)),none),(3,AV.pl 3 0 [],some (Rt.an [C.own (D.sl 5 ((zx s (⟨0,0,⟨0,[]⟩,[]⟩:ak)).map ak.e))])),(4,AV.v false (di (s:Int)),none)]) (fun s=>s≤m) (fun s=>m-s) 0 (by simp) (Nat.zero_le _) ?_;intro s h1;unfold AN;have hw:IntKind.wrap .i64 ((s:Int)+1)=(s:Int)+1:=wrap_i64 (by omega) (by omega)
  repeat' first|refine Zs ?_|((with_reducible refine Xk fun K k=>?_);simp [hw];(repeat' (with_reducible first|refine k _ ?_|(refine aw ?_ ?_<;>(intro hc;(try rw [za] at hc);first|(exfalso;omega)|(try simp [hc,hw])))));all_goals clear k K)|refine Xt rfl ?_|refine Xf rfl ?_|(refine We rfl ?_ ?_<;>(intro hc;(try simp at hc);(all_goals first|(exfalso;omega)|skip)))
  all_goals first|(obtain rfl:s=m:=by omega
                   simp [yx,l6,hb];done)|(exact ⟨s+1,by simp [List.replicate_succ'],by omega,by omega⟩)|(exfalso;omega)
 ·repeat' (first
   |with_reducible (first|refine wp_seq ?_|refine aU ?_|refine wp_skip ?_|refine wp_exit ?_|refine wp_ret ?_|refine aQ ?_|refine aR ?_|refine aP ?_|refine aC ?_|refine aD ?_|refine aB ?_|refine aM ?_|refine aL ?_|refine aO ?_|refine aK ?_|refine aJ ?_|refine aG ?_|refine aF ?_|refine aI ?_|refine aH ?_)
   |(with_reducible refine wp_loop (c:=AN) ?_
     conv=>arg 2;unfold AN)
   |(with_reducible refine aV fun K hK=>?_
     simp[hb]
     repeat' (with_reducible first|refine hK _ ?_|(refine aw ?_ ?_<;>(intro hc;(try rw [za] at hc);first|(exfalso;omega)|(try simp [hc,hb]))))
     all_goals (clear hK;clear K))
   |(with_reducible refine aW ?_
     refine ⟨_,rfl,?_,?_⟩<;>(intro hc;(try simp at hc);(all_goals first|(exfalso;omega)|skip))))
  all_goals simp [yx,l6,hb]
def gx (i:Int) (l:List ak):List ak:=match l[i.toNat]? with
 |some b=>if 0≤i∧b.Kind≠0 then l.set i.toNat ⟨IntKind.wrap .i64 (b.dV+1),0,⟨0,[]⟩,[]⟩ else l
 |none=>l
theorem Lr (l:List ak):(gx i l).length=l.length:=by
 unfold gx;split
 ·split<;>simp
 ·rfl
theorem Ls (l:List ak) (h:ak.aq l):ak.aq (gx i l):=by
 unfold gx;split
 ·rename_i x hx;split
  ·intro y hy;rcases zt hy with hy|rfl
   ·exact h y hy
   ·simp [ak.sm,dw.sm,aj.aq]
  ·exact h
 ·exact h
@[simp] theorem t21 (l:List ak) (i:Int) (h:l.length≤1048576) (hs:ak.aq l):Gw TT 21 [.one (.ro k0 (.sl 5 (l.map ak.e))),vi i]=some (.one (.own (.sl 5 ((gx i l).map ak.e))),[]):=by
 refine dD (F:=vR) rfl rfl ?_;show Wp _ Ep _ _;unfold Ep;have hw:IntKind.wrap .i64 ((l.length:Int)-1)=(l.length:Int)-1:=wrap_i64 (by omega) (by omega);by_cases hb:0≤i∧i<(l.length:Int)
 ·obtain ⟨dR,dh⟩:=hb;obtain ⟨x,hx⟩:∃x,l[i.toNat]?=some x:=⟨_,zo (by omega)⟩;obtain ⟨ae,he⟩:=zf.1 hx;by_cases hk:x.Kind=0
  ·repeat' first|refine Zs ?_|((with_reducible refine Xk fun K k=>?_);simp [h,hs,hw,dR,dh,ae,hx,he,hk];(repeat' (with_reducible first|refine k _ ?_|(refine aw ?_ ?_<;>(intro hc;(try rw [za] at hc);first|(exfalso;omega)|(try simp [hc,h,hs,hw,dR,dh,ae,hx,he,hk])))));all_goals clear k K)|refine Xt rfl ?_|refine Xf rfl ?_|(refine We rfl ?_ ?_<;>(intro hc;(try simp at hc);(all_goals first|(exfalso;omega)|skip)))
   simp [vR,gx,hx,dR,he,hk]
  ·repeat' first|refine Zs ?_|((with_reducible refine Xk fun K k=>?_);simp [h,hs,hw,dR,dh,ae,hx,he,hk];(repeat' (with_reducible first|refine k _ ?_|(refine aw ?_ ?_<;>(intro hc;(try rw [za] at hc);first|(exfalso;omega)|(try simp [hc,h,hs,hw,dR,dh,ae,hx,he,hk])))));all_goals clear k K)|refine Xt rfl ?_|refine Xf rfl ?_|(refine We rfl ?_ ?_<;>(intro hc;(try simp at hc);(all_goals first|(exfalso;omega)|skip)))
   simp [vR,gx,hx,dR,he,hk]
 ·have hf:gx i l=l:=by
   unfold gx;split
   ·rename_i y hy;have:=(zf.1 hy).1;rw [if_neg (by omega)]
   ·rfl
  repeat' first|refine Zs ?_|((with_reducible refine Xk fun K k=>?_);simp [h,hs,hw];(repeat' (with_reducible first|refine k _ ?_|(refine aw ?_ ?_<;>(intro hc;(try rw [za] at hc);first|(exfalso;omega)|(try simp [hc,h,hs,hw])))));all_goals clear k K)|refine Xt rfl ?_|refine Xf rfl ?_|(refine We rfl ?_ ?_<;>(intro hc;(try simp at hc);(all_goals first|(exfalso;omega)|skip)))
  all_goals simp [vR,hf]
@[simp] theorem t300 (l:List ak) (i:Int) (h:l.length≤1048576) (hs:ak.aq l):Gw TT 300 [.one (.ro k0 (.sl 5 (l.map ak.e))),vi i]=some (.one (.own (.sl 5 ((gx i l).map ak.e))),[]):=by
 refine dD (F:=vU) rfl rfl ?_;show Wp _ Ew _ _;unfold Ew;have hw:IntKind.wrap .i64 ((l.length:Int)-1)=(l.length:Int)-1:=wrap_i64 (by omega) (by omega);by_cases hb:0≤i∧i<(l.length:Int)
 ·obtain ⟨dR,dh⟩:=hb;obtain ⟨x,hx⟩:∃x,l[i.toNat]?=some x:=⟨_,zo (by omega)⟩;obtain ⟨ae,he⟩:=zf.1 hx;by_cases hk:x.Kind=0
  ·repeat' first|refine Zs ?_|((with_reducible refine Xk fun K k=>?_);simp [h,hs,hw,dR,dh,ae,hx,he,hk];(repeat' (with_reducible first|refine k _ ?_|(refine aw ?_ ?_<;>(intro hc;(try rw [za] at hc);first|(exfalso;omega)|(try simp [hc,h,hs,hw,dR,dh,ae,hx,he,hk])))));all_goals clear k K)|refine Xt rfl ?_|refine Xf rfl ?_|(refine We rfl ?_ ?_<;>(intro hc;(try simp at hc);(all_goals first|(exfalso;omega)|skip)))
   simp [vU,gx,hx,dR,he,hk]
  ·repeat' first|refine Zs ?_|((with_reducible refine Xk fun K k=>?_);simp [h,hs,hw,dR,dh,ae,hx,he,hk];(repeat' (with_reducible first|refine k _ ?_|(refine aw ?_ ?_<;>(intro hc;(try rw [za] at hc);first|(exfalso;omega)|(try simp [hc,h,hs,hw,dR,dh,ae,hx,he,hk])))));all_goals clear k K)|refine Xt rfl ?_|refine Xf rfl ?_|(refine We rfl ?_ ?_<;>(intro hc;(try simp at hc);(all_goals first|(exfalso;omega)|skip)))
   simp [vU,gx,hx,dR,he,hk]
 ·have hf:gx i l=l:=by
   unfold gx;split
   ·rename_i y hy;have:=(zf.1 hy).1;rw [if_neg (by omega)]
   ·rfl
  repeat' first|refine Zs ?_|((with_reducible refine Xk fun K k=>?_);simp [h,hs,hw];(repeat' (with_reducible first|refine k _ ?_|(refine aw ?_ ?_<;>(intro hc;(try rw [za] at hc);first|(exfalso;omega)|(try simp [hc,h,hs,hw])))));all_goals clear k K)|refine Xt rfl ?_|refine Xf rfl ?_|(refine We rfl ?_ ?_<;>(intro hc;(try simp at hc);(all_goals first|(exfalso;omega)|skip)))
  simp [vU,hf]
structure bc where
 b:List Int
 i:Nat
 h:Int
 hb:b.length≤1048576
theorem JR:0≤IntKind.wrap .i64 ((x &&& 255%2^IntKind.i64.bits:Nat):Int)∧IntKind.wrap .i64 ((x &&& 255%2^IntKind.i64.bits:Nat):Int)≤255:=by
 have h0:255%2^IntKind.i64.bits=255:=by decide
 rw [h0];have h:x &&& 255≤255:=Nat.and_le_right;rw [wrap_i64 (by omega) (by omega)];omega
theorem KG (hb:b.length≤1048576):∃h:Int,Gw TT 379 [.one (.ro k0 (.sl 1 (b.map eb)))]=some (.ptr [.ro k0 (.sl 1 (b.map eb)),.ro false (di 0),.ro false (di h)],[]):=by
 suffices h0:∃y,Gw TT 379 [.one (.ro k0 (.sl 1 (b.map eb)))]=some y∧∃h:Int,y=(.ptr [.ro k0 (.sl 1 (b.map eb)),.ro false (di 0),.ro false (di h)],[]) by
  obtain ⟨y,h1,h,rfl⟩:=h0;exact ⟨h,h1⟩
 refine eW (F:=yD) rfl rfl ?_;show Wp _ EO _ _;unfold EO
 repeat' (first
  |with_reducible (first|refine wp_seq ?_|refine aU ?_|refine wp_skip ?_|refine wp_exit ?_|refine wp_ret ?_|refine aQ ?_|refine aR ?_|refine aP ?_|refine aC ?_|refine aD ?_|refine aB ?_|refine aM ?_|refine aL ?_|refine aO ?_|refine aK ?_|refine aJ ?_|refine aG ?_|refine aF ?_|refine aI ?_|refine aH ?_)
  |(with_reducible refine aV fun K hK=>?_
    simp
    repeat' (with_reducible first|refine hK _ ?_|(refine aw ?_ ?_<;>(intro hc;(try rw [za] at hc);first|(exfalso;omega)|(try simp [hc]))))
    all_goals (clear hK;clear K))
  |(with_reducible refine aW ?_
    refine ⟨_,rfl,?_,?_⟩<;>(intro hc;(try simp at hc);(all_goals first|(exfalso;omega)|skip))))
 refine ba (σ:=List Int×List Int×Int) (fun s=>[(0,AV.v k0 (D.sl 1 (b.map eb)),none),(3,AV.v false (di s.2.2),none),(4,AV.v false (di ((s.1.length:Nat):Int)),none)]) (fun s=>b=s.1++s.2.1) (fun s=>s.2.1.length) ([],b,IntKind.wrap .i64 (154242+(b.length:Int))) (by simp) rfl ?_;rintro ⟨pre,rest,a⟩ h1;simp only at h1;subst h1;simp only [zd,zb] at hb;rcases rest with _|⟨d,rest⟩
 ·unfold H_
  repeat' (first
   |with_reducible (first|refine wp_seq ?_|refine aU ?_|refine wp_skip ?_|refine wp_exit ?_|refine wp_ret ?_|refine aQ ?_|refine aR ?_|refine aP ?_|refine aC ?_|refine aD ?_|refine aB ?_|refine aM ?_|refine aL ?_|refine aO ?_|refine aK ?_|refine aJ ?_|refine aG ?_|refine aF ?_|refine aI ?_|refine aH ?_)
   |(with_reducible refine aV fun K hK=>?_
     simp
     repeat' (with_reducible first|refine hK _ ?_|(refine aw ?_ ?_<;>(intro hc;(try rw [za] at hc);first|(exfalso;omega)|(try simp [hc]))))
     all_goals (clear hK;clear K))
   |(with_reducible refine aW ?_
     refine ⟨_,rfl,?_,?_⟩<;>(intro hc;(try simp at hc);(all_goals first|(exfalso;omega)|skip))))
  all_goals exact ⟨_,by simp [yD];rfl,a,by simp⟩
 ·unfold H_;simp only [zb] at hb;have hw:IntKind.wrap .i64 ((pre.length:Int)+1)=(pre.length:Int)+1:=wrap_i64 (by omega) (by omega)
  repeat' (first
   |with_reducible (first|refine wp_seq ?_|refine aU ?_|refine wp_skip ?_|refine wp_exit ?_|refine wp_ret ?_|refine aQ ?_|refine aR ?_|refine aP ?_|refine aC ?_|refine aD ?_|refine aB ?_|refine aM ?_|refine aL ?_|refine aO ?_|refine aK ?_|refine aJ ?_|refine aG ?_|refine aF ?_|refine aI ?_|refine aH ?_)
   |(with_reducible refine aV fun K hK=>?_
     simp[hw]
     repeat' (with_reducible first|refine hK _ ?_|(refine aw ?_ ?_<;>(intro hc;(try rw [za] at hc);first|(exfalso;omega)|(try simp [hc,hw]))))
     all_goals (clear hK;clear K))
   |(with_reducible refine aW ?_
     refine ⟨_,rfl,?_,?_⟩<;>(intro hc;(try simp at hc);(all_goals first|(exfalso;omega)|skip))))
  all_goals first|exact ⟨(pre++[d],rest,_),by simp;rfl,by simp,by simp⟩|exact ⟨_,by simp [yD];rfl,a,by simp⟩
noncomputable def eR (b:List Int) (hb:b.length≤1048576):bc:=⟨b,0,zi (KG false b hb),hb⟩
@[simp] theorem acu (hb:b.length≤1048576):Gw TT 379 [.one (.ro false (.sl 1 (b.map eb)))]=some (.ptr [.ro false (.sl 1 ((eR b hb).b.map eb)),.ro false (di ((eR b hb).i:Nat)),.ro false (di (eR b hb).h)],[]):=ze (KG false b hb)
theorem B_ (c:bc):∃r:(Int)×bc,Gw TT 376 [.ptr [.ro false (.sl 1 (c.b.map eb)),.ro false (di (c.i:Nat)),.ro false (di c.h)]]=some (vi r.1,[(0,0,.ro false (.sl 1 (r.2.b.map eb))),(0,1,.ro false (di (r.2.i:Nat))),(0,2,.ro false (di r.2.h))])∧(0≤r.1∧r.1≤255):=by
 suffices h0:∃y,Gw TT 376 [.ptr [.ro false (.sl 1 (c.b.map eb)),.ro false (di (c.i:Nat)),.ro false (di c.h)]]=some y∧∃r:(Int)×bc,y=(vi r.1,[(0,0,.ro false (.sl 1 (r.2.b.map eb))),(0,1,.ro false (di (r.2.i:Nat))),(0,2,.ro false (di r.2.h))])∧(0≤r.1∧r.1≤255) by
  obtain ⟨y,h1,r,rfl,h2⟩:=h0;exact ⟨r,h1,h2⟩
 refine eW (F:=yB) rfl rfl ?_;show Wp _ EL _ _;unfold EL;obtain ⟨b,i,h,hb⟩:=c;by_cases hi:i<b.length
 ·have hw:IntKind.wrap .i64 ((i:Int)+1)=(i:Int)+1:=wrap_i64 (by omega) (by omega)
  repeat' (first
   |with_reducible (first|refine wp_seq ?_|refine aU ?_|refine wp_skip ?_|refine wp_exit ?_|refine wp_ret ?_|refine aQ ?_|refine aR ?_|refine aP ?_|refine aC ?_|refine aD ?_|refine aB ?_|refine aM ?_|refine aL ?_|refine aO ?_|refine aK ?_|refine aJ ?_|refine aG ?_|refine aF ?_|refine aI ?_|refine aH ?_)
   |(with_reducible refine aV fun K hK=>?_
     simp[hi,hw]
     repeat' (with_reducible first|refine hK _ ?_|(refine aw ?_ ?_<;>(intro hc;(try rw [za] at hc);first|(exfalso;omega)|(try simp [hc,hi,hw]))))
     all_goals (clear hK;clear K))
   |(with_reducible refine aW ?_
     refine ⟨_,rfl,?_,?_⟩<;>(intro hc;(try simp at hc);(all_goals first|(exfalso;omega)|skip))))
  all_goals first|(exfalso;omega)|(refine ⟨_,by simp [yB];rfl,?_⟩;exact ⟨(_,⟨b,i+1,_,hb⟩),rfl,JR _⟩)
 ·repeat' (first
   |with_reducible (first|refine wp_seq ?_|refine aU ?_|refine wp_skip ?_|refine wp_exit ?_|refine wp_ret ?_|refine aQ ?_|refine aR ?_|refine aP ?_|refine aC ?_|refine aD ?_|refine aB ?_|refine aM ?_|refine aL ?_|refine aO ?_|refine aK ?_|refine aJ ?_|refine aG ?_|refine aF ?_|refine aI ?_|refine aH ?_)
   |(with_reducible refine aV fun K hK=>?_
     simp[hi]
     repeat' (with_reducible first|refine hK _ ?_|(refine aw ?_ ?_<;>(intro hc;(try rw [za] at hc);first|(exfalso;omega)|(try simp [hc,hi]))))
     all_goals (clear hK;clear K))
   |(with_reducible refine aW ?_
     refine ⟨_,rfl,?_,?_⟩<;>(intro hc;(try simp at hc);(all_goals first|(exfalso;omega)|skip))))
  all_goals first|(exfalso;omega)|(refine ⟨_,by simp [yB];rfl,?_⟩;exact ⟨(_,⟨b,i,_,hb⟩),rfl,JR _⟩)
noncomputable def d376 (c:bc):(Int)×bc:=zi (B_ c)
@[simp] theorem acr (c:bc):Gw TT 376 [.ptr [.ro false (.sl 1 (c.b.map eb)),.ro false (di (c.i:Nat)),.ro false (di c.h)]]=some (vi (d376 c).1,[(0,0,.ro false (.sl 1 ((d376 c).2.b.map eb))),(0,1,.ro false (di ((d376 c).2.i:Nat))),(0,2,.ro false (di (d376 c).2.h))]):=(ze (B_ c)).1
theorem yt (c:bc):0≤(d376 c).1∧(d376 c).1≤255:=(ze (B_ c)).2
theorem OF {x n:Int} (h0:0≤x) (h:0<n):0≤x.tmod n∧x.tmod n<n:=by
 rw [zk h0];exact ⟨Int.emod_nonneg _ (by omega),Int.emod_lt_of_pos _ h⟩
theorem B9 (c:bc) (n:Int):∃r:(Int)×bc,Gw TT 375 [.ptr [.ro false (.sl 1 (c.b.map eb)),.ro false (di (c.i:Nat)),.ro false (di c.h)],vi n]=some (vi r.1,[(0,0,.ro false (.sl 1 (r.2.b.map eb))),(0,1,.ro false (di (r.2.i:Nat))),(0,2,.ro false (di r.2.h))])∧(0≤r.1∧(0<n→r.1<n)∧(n≤0→r.1=0)):=by
 suffices h0:∃y,Gw TT 375 [.ptr [.ro false (.sl 1 (c.b.map eb)),.ro false (di (c.i:Nat)),.ro false (di c.h)],vi n]=some y∧∃r:(Int)×bc,y=(vi r.1,[(0,0,.ro false (.sl 1 (r.2.b.map eb))),(0,1,.ro false (di (r.2.i:Nat))),(0,2,.ro false (di r.2.h))])∧(0≤r.1∧(0<n→r.1<n)∧(n≤0→r.1=0)) by
  obtain ⟨y,h1,r,rfl,h2⟩:=h0;exact ⟨r,h1,h2⟩
 refine eW (F:=vX) rfl rfl ?_;show Wp _ EK _ _;unfold EK;by_cases h0:n≤0
 ·repeat' (first
   |with_reducible (first|refine wp_seq ?_|refine aU ?_|refine wp_skip ?_|refine wp_exit ?_|refine wp_ret ?_|refine aQ ?_|refine aR ?_|refine aP ?_|refine aC ?_|refine aD ?_|refine aB ?_|refine aM ?_|refine aL ?_|refine aO ?_|refine aK ?_|refine aJ ?_|refine aG ?_|refine aF ?_|refine aI ?_|refine aH ?_)
   |(with_reducible refine aV fun K hK=>?_
     simp[h0]
     repeat' (with_reducible first|refine hK _ ?_|(refine aw ?_ ?_<;>(intro hc;(try rw [za] at hc);first|(exfalso;omega)|(try simp [hc,h0]))))
     all_goals (clear hK;clear K))
   |(with_reducible refine aW ?_
     refine ⟨_,rfl,?_,?_⟩<;>(intro hc;(try simp at hc);(all_goals first|(exfalso;omega)|skip))))
  all_goals first|(exfalso;omega)|(refine ⟨_,by simp [vX];rfl,?_⟩;exact ⟨(0,c),rfl,by omega,by omega,fun _=>rfl⟩)
 ·have hn:n≠0:=by omega
  by_cases h1:n≤256
  ·have q:=yt c;have q2:=OF (n:=n) q.1 (by omega)
   repeat' (first
    |with_reducible (first|refine wp_seq ?_|refine aU ?_|refine wp_skip ?_|refine wp_exit ?_|refine wp_ret ?_|refine aQ ?_|refine aR ?_|refine aP ?_|refine aC ?_|refine aD ?_|refine aB ?_|refine aM ?_|refine aL ?_|refine aO ?_|refine aK ?_|refine aJ ?_|refine aG ?_|refine aF ?_|refine aI ?_|refine aH ?_)
    |(with_reducible refine aV fun K hK=>?_
      simp[h0,h1,hn]
      repeat' (with_reducible first|refine hK _ ?_|(refine aw ?_ ?_<;>(intro hc;(try rw [za] at hc);first|(exfalso;omega)|(try simp [hc,h0,h1,hn]))))
      all_goals (clear hK;clear K))
    |(with_reducible refine aW ?_
      refine ⟨_,rfl,?_,?_⟩<;>(intro hc;(try simp at hc);(all_goals first|(exfalso;omega)|skip))))
   all_goals first|(exfalso;omega)|(refine ⟨_,by simp [vX];rfl,?_⟩;exact ⟨(_,(d376 c).2),rfl,q2.1,fun _=>q2.2,fun h=>absurd h h0⟩)
  ·have q1:=yt c;have q2:=yt (d376 c).2;have q3:=yt (d376 (d376 c).2).2;have w1:IntKind.wrap .i64 ((d376 c).1*65536)=(d376 c).1*65536:=wrap_i64 (by omega) (by omega);have w2:IntKind.wrap .i64 ((d376 (d376 c).2).1*256)=(d376 (d376 c).2).1*256:=wrap_i64 (by omega) (by omega);have w3:IntKind.wrap .i64 ((d376 c).1*65536+(d376 (d376 c).2).1*256)=(d376 c).1*65536+(d376 (d376 c).2).1*256:=wrap_i64 (by omega) (by omega);have w4:IntKind.wrap .i64 ((d376 c).1*65536+(d376 (d376 c).2).1*256+(d376 (d376 (d376 c).2).2).1)=(d376 c).1*65536+(d376 (d376 c).2).1*256+(d376 (d376 (d376 c).2).2).1:=wrap_i64 (by omega) (by omega);have q4:=OF (x:=(d376 c).1*65536+(d376 (d376 c).2).1*256+(d376 (d376 (d376 c).2).2).1) (n:=n) (by omega) (by omega)
   repeat' (first
    |with_reducible (first|refine wp_seq ?_|refine aU ?_|refine wp_skip ?_|refine wp_exit ?_|refine wp_ret ?_|refine aQ ?_|refine aR ?_|refine aP ?_|refine aC ?_|refine aD ?_|refine aB ?_|refine aM ?_|refine aL ?_|refine aO ?_|refine aK ?_|refine aJ ?_|refine aG ?_|refine aF ?_|refine aI ?_|refine aH ?_)
    |(with_reducible refine aV fun K hK=>?_
      simp[h0,h1,hn,w1,w2,w3,w4]
      repeat' (with_reducible first|refine hK _ ?_|(refine aw ?_ ?_<;>(intro hc;(try rw [za] at hc);first|(exfalso;omega)|(try simp [hc,h0,h1,hn,w1,w2,w3,w4]))))
      all_goals (clear hK;clear K))
    |(with_reducible refine aW ?_
      refine ⟨_,rfl,?_,?_⟩<;>(intro hc;(try simp at hc);(all_goals first|(exfalso;omega)|skip))))
   all_goals first|(exfalso;omega)|(refine ⟨_,by simp [vX];rfl,?_⟩;exact ⟨(_,(d376 (d376 (d376 c).2).2).2),rfl,q4.1,fun _=>q4.2,fun h=>absurd h h0⟩)
noncomputable def d375 (c:bc) (n:Int):(Int)×bc:=zi (B9 c n)
@[simp] theorem acq (c:bc) (n:Int):Gw TT 375 [.ptr [.ro false (.sl 1 (c.b.map eb)),.ro false (di (c.i:Nat)),.ro false (di c.h)],vi n]=some (vi (d375 c n).1,[(0,0,.ro false (.sl 1 ((d375 c n).2.b.map eb))),(0,1,.ro false (di ((d375 c n).2.i:Nat))),(0,2,.ro false (di (d375 c n).2.h))]):=(ze (B9 c n)).1
theorem tx (c:bc) (n:Int):0≤(d375 c n).1∧(0<n→(d375 c n).1<n)∧(n≤0→(d375 c n).1=0):=(ze (B9 c n)).2
theorem KJ (c:bc) (n:Int):∃r:(Bool)×bc,Gw TT 382 [.ptr [.ro false (.sl 1 (c.b.map eb)),.ro false (di (c.i:Nat)),.ro false (di c.h)],vi n]=some (vb r.1,[(0,0,.ro false (.sl 1 (r.2.b.map eb))),(0,1,.ro false (di (r.2.i:Nat))),(0,2,.ro false (di r.2.h))])∧(True):=by
 suffices h0:∃y,Gw TT 382 [.ptr [.ro false (.sl 1 (c.b.map eb)),.ro false (di (c.i:Nat)),.ro false (di c.h)],vi n]=some y∧∃r:(Bool)×bc,y=(vb r.1,[(0,0,.ro false (.sl 1 (r.2.b.map eb))),(0,1,.ro false (di (r.2.i:Nat))),(0,2,.ro false (di r.2.h))])∧(True) by
  obtain ⟨y,h1,r,rfl,h2⟩:=h0;exact ⟨r,h1,h2⟩
 refine eW (F:=Hl) rfl rfl ?_;show Wp _ ES _ _;unfold ES
 repeat' (first
  |with_reducible (first|refine wp_seq ?_|refine aU ?_|refine wp_skip ?_|refine wp_exit ?_|refine wp_ret ?_|refine aQ ?_|refine aR ?_|refine aP ?_|refine aC ?_|refine aD ?_|refine aB ?_|refine aM ?_|refine aL ?_|refine aO ?_|refine aK ?_|refine aJ ?_|refine aG ?_|refine aF ?_|refine aI ?_|refine aH ?_)
  |(with_reducible refine aV fun K hK=>?_
    simp
    repeat' (with_reducible first|refine hK _ ?_|(refine aw ?_ ?_<;>(intro hc;(try rw [za] at hc);first|(exfalso;omega)|(try simp [hc]))))
    all_goals (clear hK;clear K))
  |(with_reducible refine aW ?_
    refine ⟨_,rfl,?_,?_⟩<;>(intro hc;(try simp at hc);(all_goals first|(exfalso;omega)|skip))))
 all_goals (refine ⟨_,by simp [Hl];rfl,?_⟩;exact ⟨((d375 c n).1==0,(d375 c n).2),rfl,trivial⟩)
noncomputable def d382 (c:bc) (n:Int):(Bool)×bc:=zi (KJ c n)
@[simp] theorem acx (c:bc) (n:Int):Gw TT 382 [.ptr [.ro false (.sl 1 (c.b.map eb)),.ro false (di (c.i:Nat)),.ro false (di c.h)],vi n]=some (vb (d382 c n).1,[(0,0,.ro false (.sl 1 ((d382 c n).2.b.map eb))),(0,1,.ro false (di ((d382 c n).2.i:Nat))),(0,2,.ro false (di (d382 c n).2.h))]):=(ze (KJ c n)).1
theorem KF (c:bc) (k0:Bool) (L:List (List D)) (h0:0<L.length) (h1:L.length≤256) (hL:∀e∈L,∃n:Int,e=[di n]):∃r:(Int)×bc,Gw TT 378 [.ptr [.ro false (.sl 1 (c.b.map eb)),.ro false (di (c.i:Nat)),.ro false (di c.h)],.one (.ro k0 (.sl 1 L))]=some (vi r.1,[(0,0,.ro false (.sl 1 (r.2.b.map eb))),(0,1,.ro false (di (r.2.i:Nat))),(0,2,.ro false (di r.2.h))])∧([di r.1]∈L):=by
 suffices h0:∃y,Gw TT 378 [.ptr [.ro false (.sl 1 (c.b.map eb)),.ro false (di (c.i:Nat)),.ro false (di c.h)],.one (.ro k0 (.sl 1 L))]=some y∧∃r:(Int)×bc,y=(vi r.1,[(0,0,.ro false (.sl 1 (r.2.b.map eb))),(0,1,.ro false (di (r.2.i:Nat))),(0,2,.ro false (di r.2.h))])∧([di r.1]∈L) by
  obtain ⟨y,h1,r,rfl,h2⟩:=h0;exact ⟨r,h1,h2⟩
 refine eW (F:=Hj) rfl rfl ?_;show Wp _ EN _ _;unfold EN;obtain ⟨q1,q2,q3⟩:=tx c (L.length:Int);have q4:=q2 (by omega);have ae:(d375 c (L.length:Int)).1.toNat<L.length:=by omega
 obtain ⟨x,hx⟩:=hL _ (zP ae);have kh:L[(d375 c (L.length:Int)).1.toNat]?=some [di x]:=by rw [zo ae,hx]
 repeat' (first
  |with_reducible (first|refine wp_seq ?_|refine aU ?_|refine wp_skip ?_|refine wp_exit ?_|refine wp_ret ?_|refine aQ ?_|refine aR ?_|refine aP ?_|refine aC ?_|refine aD ?_|refine aB ?_|refine aM ?_|refine aL ?_|refine aO ?_|refine aK ?_|refine aJ ?_|refine aG ?_|refine aF ?_|refine aI ?_|refine aH ?_)
  |(with_reducible refine aV fun K hK=>?_
    simp[q1,q4,kh,hx]
    repeat' (with_reducible first|refine hK _ ?_|(refine aw ?_ ?_<;>(intro hc;(try rw [za] at hc);first|(exfalso;omega)|(try simp [hc,q1,q4,kh,hx]))))
    all_goals (clear hK;clear K))
  |(with_reducible refine aW ?_
    refine ⟨_,rfl,?_,?_⟩<;>(intro hc;(try simp at hc);(all_goals first|(exfalso;omega)|skip))))
 all_goals first|(exfalso;omega)|(refine ⟨_,by simp [Hj];rfl,?_⟩;exact ⟨(x,(d375 c (L.length:Int)).2),rfl,hx▸zP ae⟩)
noncomputable def d378 (c:bc) (k0:Bool) (L:List (List D)) (h0:0<L.length) (h1:L.length≤256) (hL:∀e∈L,∃n:Int,e=[di n]):(Int)×bc:=zi (KF c k0 L h0 h1 hL)
theorem qD (c:bc) (k0:Bool) (L:List (List D)) (h0:0<L.length) (h1:L.length≤256) (hL:∀e∈L,∃n:Int,e=[di n]):Gw TT 378 [.ptr [.ro false (.sl 1 (c.b.map eb)),.ro false (di (c.i:Nat)),.ro false (di c.h)],.one (.ro k0 (.sl 1 L))]=some (vi (d378 c k0 L h0 h1 hL).1,[(0,0,.ro false (.sl 1 ((d378 c k0 L h0 h1 hL).2.b.map eb))),(0,1,.ro false (di ((d378 c k0 L h0 h1 hL).2.i:Nat))),(0,2,.ro false (di (d378 c k0 L h0 h1 hL).2.h))]):=(ze (KF c k0 L h0 h1 hL)).1
@[simp] theorem t141 (h:b.length≤9223372036854775807):Gw TT 141 [.one (.ro k0 (.sl 1 (b.map eb)))]=some (vb (decide (1048576<(b.length:Int))),[]):=by
 refine dD (F:=G') rfl rfl ?_;show Wp _ Ek _ _;unfold Ek
 repeat' (first
  |with_reducible (first|refine wp_seq ?_|refine aU ?_|refine wp_skip ?_|refine wp_exit ?_|refine wp_ret ?_|refine aQ ?_|refine aR ?_|refine aP ?_|refine aC ?_|refine aD ?_|refine aB ?_|refine aM ?_|refine aL ?_|refine aO ?_|refine aK ?_|refine aJ ?_|refine aG ?_|refine aF ?_|refine aI ?_|refine aH ?_)
  |(with_reducible refine aV fun K hK=>?_
    simp
    repeat' (with_reducible first|refine hK _ ?_|(refine aw ?_ ?_<;>(intro hc;(try rw [za] at hc);first|(exfalso;omega)|(try simp [hc]))))
    all_goals (clear hK;clear K))
  |(with_reducible refine aW ?_
    refine ⟨_,rfl,?_,?_⟩<;>(intro hc;(try simp at hc);(all_goals first|(exfalso;omega)|skip))))
 all_goals simp [G']
theorem B' (c:bc) (k0:Bool) (L:List (List D)) (h0:0<L.length) (h1:L.length≤256) (hL:∀e∈L,∃s:ByteArray,e=[.str s]∧s.size≤100):∃r:(ByteArray)×bc,Gw TT 385 [.ptr [.ro false (.sl 1 (c.b.map eb)),.ro false (di (c.i:Nat)),.ro false (di c.h)],.one (.ro k0 (.sl 1 L))]=some (.one (.ro false (.str r.1)),[(0,0,.ro false (.sl 1 (r.2.b.map eb))),(0,1,.ro false (di (r.2.i:Nat))),(0,2,.ro false (di r.2.h))])∧(r.1.size≤100):=by
 suffices h0:∃y,Gw TT 385 [.ptr [.ro false (.sl 1 (c.b.map eb)),.ro false (di (c.i:Nat)),.ro false (di c.h)],.one (.ro k0 (.sl 1 L))]=some y∧∃r:(ByteArray)×bc,y=(.one (.ro false (.str r.1)),[(0,0,.ro false (.sl 1 (r.2.b.map eb))),(0,1,.ro false (di (r.2.i:Nat))),(0,2,.ro false (di r.2.h))])∧(r.1.size≤100) by
  obtain ⟨y,h1,r,rfl,h2⟩:=h0;exact ⟨r,h1,h2⟩
 refine eW (F:=Hn) rfl rfl ?_;show Wp _ EV _ _;unfold EV;obtain ⟨q1,q2,q3⟩:=tx c (L.length:Int);have q4:=q2 (by omega);have ae:(d375 c (L.length:Int)).1.toNat<L.length:=by omega
 obtain ⟨x,hx,lq⟩:=hL _ (zP ae);have kh:L[(d375 c (L.length:Int)).1.toNat]?=some [.str x]:=by rw [zo ae,hx]
 repeat' (first
  |with_reducible (first|refine wp_seq ?_|refine aU ?_|refine wp_skip ?_|refine wp_exit ?_|refine wp_ret ?_|refine aQ ?_|refine aR ?_|refine aP ?_|refine aC ?_|refine aD ?_|refine aB ?_|refine aM ?_|refine aL ?_|refine aO ?_|refine aK ?_|refine aJ ?_|refine aG ?_|refine aF ?_|refine aI ?_|refine aH ?_)
  |(with_reducible refine aV fun K hK=>?_
    simp[q1,q4,kh,hx]
    repeat' (with_reducible first|refine hK _ ?_|(refine aw ?_ ?_<;>(intro hc;(try rw [za] at hc);first|(exfalso;omega)|(try simp [hc,q1,q4,kh,hx]))))
    all_goals (clear hK;clear K))
  |(with_reducible refine aW ?_
    refine ⟨_,rfl,?_,?_⟩<;>(intro hc;(try simp at hc);(all_goals first|(exfalso;omega)|skip))))
 all_goals first|(exfalso;omega)|(refine ⟨_,by simp [Hn];rfl,?_⟩;exact ⟨(x,(d375 c (L.length:Int)).2),rfl,lq⟩)
noncomputable def d385 (c:bc) (k0:Bool) (L:List (List D)) (h0:0<L.length) (h1:L.length≤256) (hL:∀e∈L,∃s:ByteArray,e=[.str s]∧s.size≤100):(ByteArray)×bc:=zi (B' c k0 L h0 h1 hL)
theorem Ok (c:bc) (k0:Bool) (L:List (List D)) (h0:0<L.length) (h1:L.length≤256) (hL:∀e∈L,∃s:ByteArray,e=[.str s]∧s.size≤100):Gw TT 385 [.ptr [.ro false (.sl 1 (c.b.map eb)),.ro false (di (c.i:Nat)),.ro false (di c.h)],.one (.ro k0 (.sl 1 L))]=some (.one (.ro false (.str (d385 c k0 L h0 h1 hL).1)),[(0,0,.ro false (.sl 1 ((d385 c k0 L h0 h1 hL).2.b.map eb))),(0,1,.ro false (di ((d385 c k0 L h0 h1 hL).2.i:Nat))),(0,2,.ro false (di (d385 c k0 L h0 h1 hL).2.h))]):=(ze (B' c k0 L h0 h1 hL)).1
theorem Nf (c:bc) (k0:Bool) (L:List (List D)) (h0:0<L.length) (h1:L.length≤256) (hL:∀e∈L,∃s:ByteArray,e=[.str s]∧s.size≤100):(d385 c k0 L h0 h1 hL).1.size≤100:=(ze (B' c k0 L h0 h1 hL)).2
theorem KE (c:bc):∃r:(Int)×bc,Gw TT 357 [.ptr [.ro false (.sl 1 (c.b.map eb)),.ro false (di (c.i:Nat)),.ro false (di c.h)]]=some (vi r.1,[(0,0,.ro false (.sl 1 (r.2.b.map eb))),(0,1,.ro false (di (r.2.i:Nat))),(0,2,.ro false (di r.2.h))])∧(True):=by
 suffices h0:∃y,Gw TT 357 [.ptr [.ro false (.sl 1 (c.b.map eb)),.ro false (di (c.i:Nat)),.ro false (di c.h)]]=some y∧∃r:(Int)×bc,y=(vi r.1,[(0,0,.ro false (.sl 1 (r.2.b.map eb))),(0,1,.ro false (di (r.2.i:Nat))),(0,2,.ro false (di r.2.h))])∧(True) by
  obtain ⟨y,h1,r,rfl,h2⟩:=h0;exact ⟨r,h1,h2⟩
 refine eW (F:=Hf) rfl rfl ?_;show Wp _ EE _ _;unfold EE;obtain ⟨r,gr⟩:∃r:Int×bc,Gw TT 378 [.ptr [.ro false (.sl 1 (c.b.map eb)),.ro false (di (c.i:Nat)),.ro false (di c.h)],.one (.ro true (.sl 1 [[di 0],[di 0],[di (-1)],[di (-1)],[di 1],[di 2],[di 3],[di 7],[di (-2)]]))]=some (vi r.1,[(0,0,.ro false (.sl 1 (r.2.b.map eb))),(0,1,.ro false (di (r.2.i:Nat))),(0,2,.ro false (di r.2.h))]):=⟨_,qD c true [[di 0],[di 0],[di (-1)],[di (-1)],[di 1],[di 2],[di 3],[di 7],[di (-2)]] (by simp) (by simp) (by simp)⟩
 repeat' (first
  |with_reducible (first|refine wp_seq ?_|refine aU ?_|refine wp_skip ?_|refine wp_exit ?_|refine wp_ret ?_|refine aQ ?_|refine aR ?_|refine aP ?_|refine aC ?_|refine aD ?_|refine aB ?_|refine aM ?_|refine aL ?_|refine aO ?_|refine aK ?_|refine aJ ?_|refine aG ?_|refine aF ?_|refine aI ?_|refine aH ?_)
  |(with_reducible refine aV fun K hK=>?_
    simp[gr]
    repeat' (with_reducible first|refine hK _ ?_|(refine aw ?_ ?_<;>(intro hc;(try rw [za] at hc);first|(exfalso;omega)|(try simp [hc,gr]))))
    all_goals (clear hK;clear K))
  |(with_reducible refine aW ?_
    refine ⟨_,rfl,?_,?_⟩<;>(intro hc;(try simp at hc);(all_goals first|(exfalso;omega)|skip))))
 all_goals (refine ⟨_,by simp [Hf];rfl,?_⟩;refine ⟨(r.1,r.2),?_,trivial⟩;(focus (first|(simp;done)|(simp [*];done))))
noncomputable def d357 (c:bc):(Int)×bc:=zi (KE c)
@[simp] theorem t357 (c:bc):Gw TT 357 [.ptr [.ro false (.sl 1 (c.b.map eb)),.ro false (di (c.i:Nat)),.ro false (di c.h)]]=some (vi (d357 c).1,[(0,0,.ro false (.sl 1 ((d357 c).2.b.map eb))),(0,1,.ro false (di ((d357 c).2.i:Nat))),(0,2,.ro false (di (d357 c).2.h))]):=(ze (KE c)).1
theorem KI (c:bc):∃r:(Int)×bc,Gw TT 381 [.ptr [.ro false (.sl 1 (c.b.map eb)),.ro false (di (c.i:Nat)),.ro false (di c.h)]]=some (vi r.1,[(0,0,.ro false (.sl 1 (r.2.b.map eb))),(0,1,.ro false (di (r.2.i:Nat))),(0,2,.ro false (di r.2.h))])∧(True):=by
 suffices h0:∃y,Gw TT 381 [.ptr [.ro false (.sl 1 (c.b.map eb)),.ro false (di (c.i:Nat)),.ro false (di c.h)]]=some y∧∃r:(Int)×bc,y=(vi r.1,[(0,0,.ro false (.sl 1 (r.2.b.map eb))),(0,1,.ro false (di (r.2.i:Nat))),(0,2,.ro false (di r.2.h))])∧(True) by
  obtain ⟨y,h1,r,rfl,h2⟩:=h0;exact ⟨r,h1,h2⟩
 refine eW (F:=Hk) rfl rfl ?_;show Wp _ ER _ _;unfold ER;obtain ⟨r,gr⟩:∃r:Int×bc,Gw TT 378 [.ptr [.ro false (.sl 1 (c.b.map eb)),.ro false (di (c.i:Nat)),.ro false (di c.h)],.one (.ro true (.sl 1 [[di (-1)],[di 0],[di 1],[di 2],[di 255],[di 256],[di 65535],[di 2147483647],[di 2147483648],[di 4294967295],[di 4294967296],[di (-2147483648)],[di 9223372036854775807],[di (-9223372036854775808)]]))]=some (vi r.1,[(0,0,.ro false (.sl 1 (r.2.b.map eb))),(0,1,.ro false (di (r.2.i:Nat))),(0,2,.ro false (di r.2.h))]):=⟨_,qD c true [[di (-1)],[di 0],[di 1],[di 2],[di 255],[di 256],[di 65535],[di 2147483647],[di 2147483648],[di 4294967295],[di 4294967296],[di (-2147483648)],[di 9223372036854775807],[di (-9223372036854775808)]] (by simp) (by simp) (by simp)⟩
 repeat' (first
  |with_reducible (first|refine wp_seq ?_|refine aU ?_|refine wp_skip ?_|refine wp_exit ?_|refine wp_ret ?_|refine aQ ?_|refine aR ?_|refine aP ?_|refine aC ?_|refine aD ?_|refine aB ?_|refine aM ?_|refine aL ?_|refine aO ?_|refine aK ?_|refine aJ ?_|refine aG ?_|refine aF ?_|refine aI ?_|refine aH ?_)
  |(with_reducible refine aV fun K hK=>?_
    simp[gr]
    repeat' (with_reducible first|refine hK _ ?_|(refine aw ?_ ?_<;>(intro hc;(try rw [za] at hc);first|(exfalso;omega)|(try simp [hc,gr]))))
    all_goals (clear hK;clear K))
  |(with_reducible refine aW ?_
    refine ⟨_,rfl,?_,?_⟩<;>(intro hc;(try simp at hc);(all_goals first|(exfalso;omega)|skip))))
 all_goals (refine ⟨_,by simp [Hk];rfl,?_⟩;refine ⟨(r.1,r.2),?_,trivial⟩;(focus (first|(simp;done)|(simp [*];done))))
noncomputable def d381 (c:bc):(Int)×bc:=zi (KI c)
@[simp] theorem acw (c:bc):Gw TT 381 [.ptr [.ro false (.sl 1 (c.b.map eb)),.ro false (di (c.i:Nat)),.ro false (di c.h)]]=some (vi (d381 c).1,[(0,0,.ro false (.sl 1 ((d381 c).2.b.map eb))),(0,1,.ro false (di ((d381 c).2.i:Nat))),(0,2,.ro false (di (d381 c).2.h))]):=(ze (KI c)).1
theorem KH (c:bc):∃r:(Int)×bc,Gw TT 380 [.ptr [.ro false (.sl 1 (c.b.map eb)),.ro false (di (c.i:Nat)),.ro false (di c.h)]]=some (vi r.1,[(0,0,.ro false (.sl 1 (r.2.b.map eb))),(0,1,.ro false (di (r.2.i:Nat))),(0,2,.ro false (di r.2.h))])∧(True):=by
 suffices h0:∃y,Gw TT 380 [.ptr [.ro false (.sl 1 (c.b.map eb)),.ro false (di (c.i:Nat)),.ro false (di c.h)]]=some y∧∃r:(Int)×bc,y=(vi r.1,[(0,0,.ro false (.sl 1 (r.2.b.map eb))),(0,1,.ro false (di (r.2.i:Nat))),(0,2,.ro false (di r.2.h))])∧(True) by
  obtain ⟨y,h1,r,rfl,h2⟩:=h0;exact ⟨r,h1,h2⟩
 refine eW (F:=tC) rfl rfl ?_;show Wp _ EP _ _;unfold EP;obtain ⟨⟨v,c1⟩,hv⟩:∃r,d375 c 5=r:=⟨_,rfl⟩;obtain ⟨r,gr⟩:∃r:Int×bc,Gw TT 378 [.ptr [.ro false (.sl 1 (c1.b.map eb)),.ro false (di (c1.i:Nat)),.ro false (di c1.h)],.one (.ro true (.sl 1 [[di 0],[di (-1)],[di 1],[di 63],[di 64],[di (-64)],[di (-65)],[di 8191],[di 8192],[di 1000000000],[di (-1000000000)],[di 999999999]]))]=some (vi r.1,[(0,0,.ro false (.sl 1 (r.2.b.map eb))),(0,1,.ro false (di (r.2.i:Nat))),(0,2,.ro false (di r.2.h))]):=⟨_,qD c1 true [[di 0],[di (-1)],[di 1],[di 63],[di 64],[di (-64)],[di (-65)],[di 8191],[di 8192],[di 1000000000],[di (-1000000000)],[di 999999999]] (by simp) (by simp) (by simp)⟩
 repeat' (first
  |with_reducible (first|refine wp_seq ?_|refine aU ?_|refine wp_skip ?_|refine wp_exit ?_|refine wp_ret ?_|refine aQ ?_|refine aR ?_|refine aP ?_|refine aC ?_|refine aD ?_|refine aB ?_|refine aM ?_|refine aL ?_|refine aO ?_|refine aK ?_|refine aJ ?_|refine aG ?_|refine aF ?_|refine aI ?_|refine aH ?_)
  |(with_reducible refine aV fun K hK=>?_
    simp[hv,gr]
    repeat' (with_reducible first|refine hK _ ?_|(refine aw ?_ ?_<;>(intro hc;(try rw [za] at hc);first|(exfalso;omega)|(try simp [hc,hv,gr]))))
    all_goals (clear hK;clear K))
  |(with_reducible refine aW ?_
    refine ⟨_,rfl,?_,?_⟩<;>(intro hc;(try simp at hc);(all_goals first|(exfalso;omega)|skip))))
 all_goals first|(exfalso;omega)|(refine ⟨_,by simp [tC];rfl,?_⟩;refine ⟨(r.1,r.2),?_,trivial⟩;(focus (first|(simp;done)|(simp [*];done))))|(refine ⟨_,by simp [tC];rfl,?_⟩;refine ⟨(IntKind.wrap .i64 ((d375 c1 300).1-150),(d375 c1 300).2),?_,trivial⟩;(focus (first|(simp;done)|(simp [*];done))))|(refine ⟨_,by simp [tC];rfl,?_⟩;refine ⟨(IntKind.wrap .i64 ((d375 c1 30000).1*IntKind.wrap .i64 ((d375 (d375 c1 30000).2 30000).1-15000)),(d375 (d375 c1 30000).2 30000).2),?_,trivial⟩;(focus (first|(simp;done)|(simp [*];done))))|(refine ⟨_,by simp [tC];rfl,?_⟩;refine ⟨(IntKind.wrap .i64 ((d375 c1 20).1-5),(d375 c1 20).2),?_,trivial⟩;(focus (first|(simp;done)|(simp [*];done))))|skip
noncomputable def d380 (c:bc):(Int)×bc:=zi (KH c)
@[simp] theorem acv (c:bc):Gw TT 380 [.ptr [.ro false (.sl 1 (c.b.map eb)),.ro false (di (c.i:Nat)),.ro false (di c.h)]]=some (vi (d380 c).1,[(0,0,.ro false (.sl 1 ((d380 c).2.b.map eb))),(0,1,.ro false (di ((d380 c).2.i:Nat))),(0,2,.ro false (di (d380 c).2.h))]):=(ze (KH c)).1
theorem KK (c:bc):∃r:(Int)×bc,Gw TT 383 [.ptr [.ro false (.sl 1 (c.b.map eb)),.ro false (di (c.i:Nat)),.ro false (di c.h)]]=some (vi r.1,[(0,0,.ro false (.sl 1 (r.2.b.map eb))),(0,1,.ro false (di (r.2.i:Nat))),(0,2,.ro false (di r.2.h))])∧(True):=by
 suffices h0:∃y,Gw TT 383 [.ptr [.ro false (.sl 1 (c.b.map eb)),.ro false (di (c.i:Nat)),.ro false (di c.h)]]=some y∧∃r:(Int)×bc,y=(vi r.1,[(0,0,.ro false (.sl 1 (r.2.b.map eb))),(0,1,.ro false (di (r.2.i:Nat))),(0,2,.ro false (di r.2.h))])∧(True) by
  obtain ⟨y,h1,r,rfl,h2⟩:=h0;exact ⟨r,h1,h2⟩
 refine eW (F:=yE) rfl rfl ?_;show Wp _ ET _ _;unfold ET;obtain ⟨⟨v,c1⟩,hv⟩:∃r,d382 c 3=r:=⟨_,rfl⟩;obtain ⟨r,gr⟩:∃r:Int×bc,Gw TT 378 [.ptr [.ro false (.sl 1 (c1.b.map eb)),.ro false (di (c1.i:Nat)),.ro false (di c1.h)],.one (.ro true (.sl 1 [[di 1000000001],[di (-1000000001)],[di 2000000000],[di 2000000001],[di 0],[di (-1)]]))]=some (vi r.1,[(0,0,.ro false (.sl 1 (r.2.b.map eb))),(0,1,.ro false (di (r.2.i:Nat))),(0,2,.ro false (di r.2.h))]):=⟨_,qD c1 true [[di 1000000001],[di (-1000000001)],[di 2000000000],[di 2000000001],[di 0],[di (-1)]] (by simp) (by simp) (by simp)⟩;cases v with
 |true=>
  repeat' (first
   |with_reducible (first|refine wp_seq ?_|refine aU ?_|refine wp_skip ?_|refine wp_exit ?_|refine wp_ret ?_|refine aQ ?_|refine aR ?_|refine aP ?_|refine aC ?_|refine aD ?_|refine aB ?_|refine aM ?_|refine aL ?_|refine aO ?_|refine aK ?_|refine aJ ?_|refine aG ?_|refine aF ?_|refine aI ?_|refine aH ?_)
   |(with_reducible refine aV fun K hK=>?_
     simp[hv]
     repeat' (with_reducible first|refine hK _ ?_|(refine aw ?_ ?_<;>(intro hc;(try rw [za] at hc);first|(exfalso;omega)|(try simp [hc,hv]))))
     all_goals (clear hK;clear K))
   |(with_reducible refine aW ?_
     refine ⟨_,rfl,?_,?_⟩<;>(intro hc;(try simp at hc);(all_goals first|(exfalso;omega)|skip))))
  all_goals (refine ⟨_,by simp [yE];rfl,?_⟩;refine ⟨((d381 c1).1,(d381 c1).2),?_,trivial⟩;(focus (first|(simp;done)|(simp [*];done))))
 |false=>
  repeat' (first
   |with_reducible (first|refine wp_seq ?_|refine aU ?_|refine wp_skip ?_|refine wp_exit ?_|refine wp_ret ?_|refine aQ ?_|refine aR ?_|refine aP ?_|refine aC ?_|refine aD ?_|refine aB ?_|refine aM ?_|refine aL ?_|refine aO ?_|refine aK ?_|refine aJ ?_|refine aG ?_|refine aF ?_|refine aI ?_|refine aH ?_)
   |(with_reducible refine aV fun K hK=>?_
     simp[hv,gr]
     repeat' (with_reducible first|refine hK _ ?_|(refine aw ?_ ?_<;>(intro hc;(try rw [za] at hc);first|(exfalso;omega)|(try simp [hc,hv,gr]))))
     all_goals (clear hK;clear K))
   |(with_reducible refine aW ?_
     refine ⟨_,rfl,?_,?_⟩<;>(intro hc;(try simp at hc);(all_goals first|(exfalso;omega)|skip))))
  all_goals (refine ⟨_,by simp [yE];rfl,?_⟩;refine ⟨(r.1,r.2),?_,trivial⟩;(focus (first|(simp;done)|(simp [*];done))))
noncomputable def d383 (c:bc):(Int)×bc:=zi (KK c)
@[simp] theorem acy (c:bc):Gw TT 383 [.ptr [.ro false (.sl 1 (c.b.map eb)),.ro false (di (c.i:Nat)),.ro false (di c.h)]]=some (vi (d383 c).1,[(0,0,.ro false (.sl 1 ((d383 c).2.b.map eb))),(0,1,.ro false (di ((d383 c).2.i:Nat))),(0,2,.ro false (di (d383 c).2.h))]):=(ze (KK c)).1
theorem Cc (c:bc):∃r:(aa)×bc,Gw TT 395 [.ptr [.ro false (.sl 1 (c.b.map eb)),.ro false (di (c.i:Nat)),.ro false (di c.h)]]=some (.st [.ro false (di r.1.Ty),.ro false (di r.1.N),.ro false (.str r.1.S)],[(0,0,.ro false (.sl 1 (r.2.b.map eb))),(0,1,.ro false (di (r.2.i:Nat))),(0,2,.ro false (di r.2.h))])∧(r.1.S.size≤100):=by
 suffices h0:∃y,Gw TT 395 [.ptr [.ro false (.sl 1 (c.b.map eb)),.ro false (di (c.i:Nat)),.ro false (di c.h)]]=some y∧∃r:(aa)×bc,y=(.st [.ro false (di r.1.Ty),.ro false (di r.1.N),.ro false (.str r.1.S)],[(0,0,.ro false (.sl 1 (r.2.b.map eb))),(0,1,.ro false (di (r.2.i:Nat))),(0,2,.ro false (di r.2.h))])∧(r.1.S.size≤100) by
  obtain ⟨y,h1,r,rfl,h2⟩:=h0;exact ⟨r,h1,h2⟩
 refine eW (F:=yH) rfl rfl ?_;show Wp _ EZ _ _;unfold EZ;obtain ⟨⟨v,c1⟩,hv⟩:∃r,d382 c 4=r:=⟨_,rfl⟩;obtain ⟨r,gr⟩:∃r:Int×bc,Gw TT 378 [.ptr [.ro false (.sl 1 (c1.b.map eb)),.ro false (di (c1.i:Nat)),.ro false (di c1.h)],.one (.ro true (.sl 1 [[di 0],[di 1],[di 2],[di 3],[di 7],[di (-1)]]))]=some (vi r.1,[(0,0,.ro false (.sl 1 (r.2.b.map eb))),(0,1,.ro false (di (r.2.i:Nat))),(0,2,.ro false (di r.2.h))]):=⟨_,qD c1 true [[di 0],[di 1],[di 2],[di 3],[di 7],[di (-1)]] (by simp) (by simp) (by simp)⟩;cases v with
 |true=>
  repeat' (first
   |with_reducible (first|refine wp_seq ?_|refine aU ?_|refine wp_skip ?_|refine wp_exit ?_|refine wp_ret ?_|refine aQ ?_|refine aR ?_|refine aP ?_|refine aC ?_|refine aD ?_|refine aB ?_|refine aM ?_|refine aL ?_|refine aO ?_|refine aK ?_|refine aJ ?_|refine aG ?_|refine aF ?_|refine aI ?_|refine aH ?_)
   |(with_reducible refine aV fun K hK=>?_
     simp[hv]
     repeat' (with_reducible first|refine hK _ ?_|(refine aw ?_ ?_<;>(intro hc;(try rw [za] at hc);first|(exfalso;omega)|(try simp [hc,hv]))))
     all_goals (clear hK;clear K))
   |(with_reducible refine aW ?_
     refine ⟨_,rfl,?_,?_⟩<;>(intro hc;(try simp at hc);(all_goals first|(exfalso;omega)|skip))))
  all_goals (refine ⟨_,by simp [yH];rfl,?_⟩;refine ⟨((⟨1,(d380 c1).1,⟨#[]⟩⟩:aa),(d380 c1).2),?_,?_⟩;(focus (first|(simp;done)|(simp [*];done)));(focus (simp [Zf])))
 |false=>
  repeat' (first
   |with_reducible (first|refine wp_seq ?_|refine aU ?_|refine wp_skip ?_|refine wp_exit ?_|refine wp_ret ?_|refine aQ ?_|refine aR ?_|refine aP ?_|refine aC ?_|refine aD ?_|refine aB ?_|refine aM ?_|refine aL ?_|refine aO ?_|refine aK ?_|refine aJ ?_|refine aG ?_|refine aF ?_|refine aI ?_|refine aH ?_)
   |(with_reducible refine aV fun K hK=>?_
     simp[hv,gr]
     repeat' (with_reducible first|refine hK _ ?_|(refine aw ?_ ?_<;>(intro hc;(try rw [za] at hc);first|(exfalso;omega)|(try simp [hc,hv,gr]))))
     all_goals (clear hK;clear K))
   |(with_reducible refine aW ?_
     refine ⟨_,rfl,?_,?_⟩<;>(intro hc;(try simp at hc);(all_goals first|(exfalso;omega)|skip))))
  all_goals (refine ⟨_,by simp [yH];rfl,?_⟩;refine ⟨((⟨1,r.1,⟨#[]⟩⟩:aa),r.2),?_,?_⟩;(focus (first|(simp;done)|(simp [*];done)));(focus (simp [Zf])))
noncomputable def d395 (c:bc):(aa)×bc:=zi (Cc c)
@[simp] theorem acC (c:bc):Gw TT 395 [.ptr [.ro false (.sl 1 (c.b.map eb)),.ro false (di (c.i:Nat)),.ro false (di c.h)]]=some (.st [.ro false (di (d395 c).1.Ty),.ro false (di (d395 c).1.N),.ro false (.str (d395 c).1.S)],[(0,0,.ro false (.sl 1 ((d395 c).2.b.map eb))),(0,1,.ro false (di ((d395 c).2.i:Nat))),(0,2,.ro false (di (d395 c).2.h))]):=(ze (Cc c)).1
theorem Ng (c:bc):(d395 c).1.S.size≤100:=(ze (Cc c)).2
theorem Cd (c:bc):∃r:(aa)×bc,Gw TT 396 [.ptr [.ro false (.sl 1 (c.b.map eb)),.ro false (di (c.i:Nat)),.ro false (di c.h)]]=some (.st [.ro false (di r.1.Ty),.ro false (di r.1.N),.ro false (.str r.1.S)],[(0,0,.ro false (.sl 1 (r.2.b.map eb))),(0,1,.ro false (di (r.2.i:Nat))),(0,2,.ro false (di r.2.h))])∧(r.1.S.size≤100):=by
 suffices h0:∃y,Gw TT 396 [.ptr [.ro false (.sl 1 (c.b.map eb)),.ro false (di (c.i:Nat)),.ro false (di c.h)]]=some y∧∃r:(aa)×bc,y=(.st [.ro false (di r.1.Ty),.ro false (di r.1.N),.ro false (.str r.1.S)],[(0,0,.ro false (.sl 1 (r.2.b.map eb))),(0,1,.ro false (di (r.2.i:Nat))),(0,2,.ro false (di r.2.h))])∧(r.1.S.size≤100) by
  obtain ⟨y,h1,r,rfl,h2⟩:=h0;exact ⟨r,h1,h2⟩
 refine eW (F:=Ho) rfl rfl ?_;show Wp _ E1 _ _;unfold E1;have HL:∀e∈([[.str ⟨#[]⟩],[.str ⟨#[97]⟩],[.str ⟨#[98]⟩],[.str ⟨#[97,98]⟩],[.str ⟨#[114,101,100]⟩],[.str ⟨#[98,108,117,101]⟩],[.str ⟨#[103,114,101,101,110]⟩],[.str ⟨#[122,122,122,122,122,122]⟩]]:List (List D)),∃s:ByteArray,e=[.str s]∧s.size≤100:=(by intro e he;simp only [zA,Zd,or_false] at he;rcases he with rfl|rfl|rfl|rfl|rfl|rfl|rfl|rfl<;>exact ⟨_,rfl,by decide⟩);obtain ⟨r,gr,sr⟩:∃r:ByteArray×bc,Gw TT 385 [.ptr [.ro false (.sl 1 (c.b.map eb)),.ro false (di (c.i:Nat)),.ro false (di c.h)],.one (.ro true (.sl 1 [[.str ⟨#[]⟩],[.str ⟨#[97]⟩],[.str ⟨#[98]⟩],[.str ⟨#[97,98]⟩],[.str ⟨#[114,101,100]⟩],[.str ⟨#[98,108,117,101]⟩],[.str ⟨#[103,114,101,101,110]⟩],[.str ⟨#[122,122,122,122,122,122]⟩]]))]=some (.one (.ro false (.str r.1)),[(0,0,.ro false (.sl 1 (r.2.b.map eb))),(0,1,.ro false (di (r.2.i:Nat))),(0,2,.ro false (di r.2.h))])∧r.1.size≤100:=⟨_,Ok c true [[.str ⟨#[]⟩],[.str ⟨#[97]⟩],[.str ⟨#[98]⟩],[.str ⟨#[97,98]⟩],[.str ⟨#[114,101,100]⟩],[.str ⟨#[98,108,117,101]⟩],[.str ⟨#[103,114,101,101,110]⟩],[.str ⟨#[122,122,122,122,122,122]⟩]] (by simp) (by simp) HL,Nf c true [[.str ⟨#[]⟩],[.str ⟨#[97]⟩],[.str ⟨#[98]⟩],[.str ⟨#[97,98]⟩],[.str ⟨#[114,101,100]⟩],[.str ⟨#[98,108,117,101]⟩],[.str ⟨#[103,114,101,101,110]⟩],[.str ⟨#[122,122,122,122,122,122]⟩]] (by simp) (by simp) HL⟩
 repeat' (first
  |with_reducible (first|refine wp_seq ?_|refine aU ?_|refine wp_skip ?_|refine wp_exit ?_|refine wp_ret ?_|refine aQ ?_|refine aR ?_|refine aP ?_|refine aC ?_|refine aD ?_|refine aB ?_|refine aM ?_|refine aL ?_|refine aO ?_|refine aK ?_|refine aJ ?_|refine aG ?_|refine aF ?_|refine aI ?_|refine aH ?_)
  |(with_reducible refine aV fun K hK=>?_
    simp[gr]
    repeat' (with_reducible first|refine hK _ ?_|(refine aw ?_ ?_<;>(intro hc;(try rw [za] at hc);first|(exfalso;omega)|(try simp [hc,gr]))))
    all_goals (clear hK;clear K))
  |(with_reducible refine aW ?_
    refine ⟨_,rfl,?_,?_⟩<;>(intro hc;(try simp at hc);(all_goals first|(exfalso;omega)|skip))))
 all_goals (refine ⟨_,by simp [Ho];rfl,?_⟩;refine ⟨((⟨2,0,r.1⟩:aa),r.2),?_,?_⟩;(focus (first|(simp;done)|(simp [*];done)));(focus (exact sr)))
noncomputable def d396 (c:bc):(aa)×bc:=zi (Cd c)
@[simp] theorem acD (c:bc):Gw TT 396 [.ptr [.ro false (.sl 1 (c.b.map eb)),.ro false (di (c.i:Nat)),.ro false (di c.h)]]=some (.st [.ro false (di (d396 c).1.Ty),.ro false (di (d396 c).1.N),.ro false (.str (d396 c).1.S)],[(0,0,.ro false (.sl 1 ((d396 c).2.b.map eb))),(0,1,.ro false (di ((d396 c).2.i:Nat))),(0,2,.ro false (di (d396 c).2.h))]):=(ze (Cd c)).1
theorem Nh (c:bc):(d396 c).1.S.size≤100:=(ze (Cd c)).2
theorem Cb (c:bc):∃r:(aa)×bc,Gw TT 394 [.ptr [.ro false (.sl 1 (c.b.map eb)),.ro false (di (c.i:Nat)),.ro false (di c.h)]]=some (.st [.ro false (di r.1.Ty),.ro false (di r.1.N),.ro false (.str r.1.S)],[(0,0,.ro false (.sl 1 (r.2.b.map eb))),(0,1,.ro false (di (r.2.i:Nat))),(0,2,.ro false (di r.2.h))])∧(r.1.S.size≤100):=by
 suffices h0:∃y,Gw TT 394 [.ptr [.ro false (.sl 1 (c.b.map eb)),.ro false (di (c.i:Nat)),.ro false (di c.h)]]=some y∧∃r:(aa)×bc,y=(.st [.ro false (di r.1.Ty),.ro false (di r.1.N),.ro false (.str r.1.S)],[(0,0,.ro false (.sl 1 (r.2.b.map eb))),(0,1,.ro false (di (r.2.i:Nat))),(0,2,.ro false (di r.2.h))])∧(r.1.S.size≤100) by
  obtain ⟨y,h1,r,rfl,h2⟩:=h0;exact ⟨r,h1,h2⟩
 refine eW (F:=yG) rfl rfl ?_;show Wp _ EY _ _;unfold EY;obtain ⟨⟨v,c1⟩,hv⟩:∃r,d382 c 2=r:=⟨_,rfl⟩;cases v with
 |true=>
  repeat' (first
   |with_reducible (first|refine wp_seq ?_|refine aU ?_|refine wp_skip ?_|refine wp_exit ?_|refine wp_ret ?_|refine aQ ?_|refine aR ?_|refine aP ?_|refine aC ?_|refine aD ?_|refine aB ?_|refine aM ?_|refine aL ?_|refine aO ?_|refine aK ?_|refine aJ ?_|refine aG ?_|refine aF ?_|refine aI ?_|refine aH ?_)
   |(with_reducible refine aV fun K hK=>?_
     simp[hv]
     repeat' (with_reducible first|refine hK _ ?_|(refine aw ?_ ?_<;>(intro hc;(try rw [za] at hc);first|(exfalso;omega)|(try simp [hc,hv]))))
     all_goals (clear hK;clear K))
   |(with_reducible refine aW ?_
     refine ⟨_,rfl,?_,?_⟩<;>(intro hc;(try simp at hc);(all_goals first|(exfalso;omega)|skip))))
  all_goals (refine ⟨_,by simp [yG];rfl,?_⟩;refine ⟨((d395 c1).1,(d395 c1).2),?_,?_⟩;(focus (first|(simp;done)|(simp [*];done)));(focus (exact Ng c1)))
 |false=>
  repeat' (first
   |with_reducible (first|refine wp_seq ?_|refine aU ?_|refine wp_skip ?_|refine wp_exit ?_|refine wp_ret ?_|refine aQ ?_|refine aR ?_|refine aP ?_|refine aC ?_|refine aD ?_|refine aB ?_|refine aM ?_|refine aL ?_|refine aO ?_|refine aK ?_|refine aJ ?_|refine aG ?_|refine aF ?_|refine aI ?_|refine aH ?_)
   |(with_reducible refine aV fun K hK=>?_
     simp[hv]
     repeat' (with_reducible first|refine hK _ ?_|(refine aw ?_ ?_<;>(intro hc;(try rw [za] at hc);first|(exfalso;omega)|(try simp [hc,hv]))))
     all_goals (clear hK;clear K))
   |(with_reducible refine aW ?_
     refine ⟨_,rfl,?_,?_⟩<;>(intro hc;(try simp at hc);(all_goals first|(exfalso;omega)|skip))))
  all_goals (refine ⟨_,by simp [yG];rfl,?_⟩;refine ⟨((d396 c1).1,(d396 c1).2),?_,?_⟩;(focus (first|(simp;done)|(simp [*];done)));(focus (exact Nh c1)))
noncomputable def d394 (c:bc):(aa)×bc:=zi (Cb c)
@[simp] theorem acB (c:bc):Gw TT 394 [.ptr [.ro false (.sl 1 (c.b.map eb)),.ro false (di (c.i:Nat)),.ro false (di c.h)]]=some (.st [.ro false (di (d394 c).1.Ty),.ro false (di (d394 c).1.N),.ro false (.str (d394 c).1.S)],[(0,0,.ro false (.sl 1 ((d394 c).2.b.map eb))),(0,1,.ro false (di ((d394 c).2.i:Nat))),(0,2,.ro false (di (d394 c).2.h))]):=(ze (Cb c)).1
theorem U5 (c:bc):(d394 c).1.S.size≤100:=(ze (Cb c)).2
theorem Ca (c:bc):∃r:(aa)×bc,Gw TT 393 [.ptr [.ro false (.sl 1 (c.b.map eb)),.ro false (di (c.i:Nat)),.ro false (di c.h)]]=some (.st [.ro false (di r.1.Ty),.ro false (di r.1.N),.ro false (.str r.1.S)],[(0,0,.ro false (.sl 1 (r.2.b.map eb))),(0,1,.ro false (di (r.2.i:Nat))),(0,2,.ro false (di r.2.h))])∧(r.1.S.size≤100):=by
 suffices h0:∃y,Gw TT 393 [.ptr [.ro false (.sl 1 (c.b.map eb)),.ro false (di (c.i:Nat)),.ro false (di c.h)]]=some y∧∃r:(aa)×bc,y=(.st [.ro false (di r.1.Ty),.ro false (di r.1.N),.ro false (.str r.1.S)],[(0,0,.ro false (.sl 1 (r.2.b.map eb))),(0,1,.ro false (di (r.2.i:Nat))),(0,2,.ro false (di r.2.h))])∧(r.1.S.size≤100) by
  obtain ⟨y,h1,r,rfl,h2⟩:=h0;exact ⟨r,h1,h2⟩
 refine eW (F:=tD) rfl rfl ?_;show Wp _ EX _ _;unfold EX;have q:=U5 c;obtain ⟨⟨x,c1⟩,hx⟩:∃r,d394 c=r:=⟨_,rfl⟩;rw [hx] at q;simp only at q;obtain ⟨⟨v,c2⟩,hv⟩:∃r,d375 c1 10=r:=⟨_,rfl⟩;obtain ⟨r,gr⟩:∃r:Int×bc,Gw TT 378 [.ptr [.ro false (.sl 1 (c2.b.map eb)),.ro false (di (c2.i:Nat)),.ro false (di c2.h)],.one (.ro true (.sl 1 [[di 0],[di 1],[di 2],[di 3]]))]=some (vi r.1,[(0,0,.ro false (.sl 1 (r.2.b.map eb))),(0,1,.ro false (di (r.2.i:Nat))),(0,2,.ro false (di r.2.h))]):=⟨_,qD c2 true [[di 0],[di 1],[di 2],[di 3]] (by simp) (by simp) (by simp)⟩;have HL:∀e∈([[.str ⟨#[97,32,98]⟩],[.str ⟨#[115,101,118,101,110,55,55]⟩],[.str ⟨#[127]⟩],[.str ⟨#[126]⟩],[.str ⟨#[33]⟩]]:List (List D)),∃s:ByteArray,e=[.str s]∧s.size≤100:=(by intro e he;simp only [zA,Zd,or_false] at he;rcases he with rfl|rfl|rfl|rfl|rfl<;>exact ⟨_,rfl,by decide⟩);obtain ⟨z,gz,sz⟩:∃r:ByteArray×bc,Gw TT 385 [.ptr [.ro false (.sl 1 (c2.b.map eb)),.ro false (di (c2.i:Nat)),.ro false (di c2.h)],.one (.ro true (.sl 1 [[.str ⟨#[97,32,98]⟩],[.str ⟨#[115,101,118,101,110,55,55]⟩],[.str ⟨#[127]⟩],[.str ⟨#[126]⟩],[.str ⟨#[33]⟩]]))]=some (.one (.ro false (.str r.1)),[(0,0,.ro false (.sl 1 (r.2.b.map eb))),(0,1,.ro false (di (r.2.i:Nat))),(0,2,.ro false (di r.2.h))])∧r.1.size≤100:=⟨_,Ok c2 true [[.str ⟨#[97,32,98]⟩],[.str ⟨#[115,101,118,101,110,55,55]⟩],[.str ⟨#[127]⟩],[.str ⟨#[126]⟩],[.str ⟨#[33]⟩]] (by simp) (by simp) HL,Nf c2 true [[.str ⟨#[97,32,98]⟩],[.str ⟨#[115,101,118,101,110,55,55]⟩],[.str ⟨#[127]⟩],[.str ⟨#[126]⟩],[.str ⟨#[33]⟩]] (by simp) (by simp) HL⟩
 repeat' (first
  |with_reducible (first|refine wp_seq ?_|refine aU ?_|refine wp_skip ?_|refine wp_exit ?_|refine wp_ret ?_|refine aQ ?_|refine aR ?_|refine aP ?_|refine aC ?_|refine aD ?_|refine aB ?_|refine aM ?_|refine aL ?_|refine aO ?_|refine aK ?_|refine aJ ?_|refine aG ?_|refine aF ?_|refine aI ?_|refine aH ?_)
  |(with_reducible refine aV fun K hK=>?_
    simp[hx,hv,gr,gz]
    repeat' (with_reducible first|refine hK _ ?_|(refine aw ?_ ?_<;>(intro hc;(try rw [za] at hc);first|(exfalso;omega)|(try simp [hc,hx,hv,gr,gz]))))
    all_goals (clear hK;clear K))
  |(with_reducible refine aW ?_
    refine ⟨_,rfl,?_,?_⟩<;>(intro hc;(try simp at hc);(all_goals first|(exfalso;omega)|skip))))
 all_goals first|(exfalso;omega)|(refine ⟨_,by simp [tD];rfl,?_⟩;refine ⟨(x,c2),?_,?_⟩;(focus (first|(simp;done)|(simp [*];done)));(focus (exact q)))|(refine ⟨_,by simp [tD];rfl,?_⟩;refine ⟨((⟨r.1,x.N,x.S⟩:aa),r.2),?_,?_⟩;(focus (first|(simp;done)|(simp [*];done)));(focus (exact q)))|(refine ⟨_,by simp [tD];rfl,?_⟩;refine ⟨((⟨x.Ty,(d383 c2).1,x.S⟩:aa),(d383 c2).2),?_,?_⟩;(focus (first|(simp;done)|(simp [*];done)));(focus (exact q)))|(refine ⟨_,by simp [tD];rfl,?_⟩;refine ⟨((⟨x.Ty,x.N,z.1⟩:aa),z.2),?_,?_⟩;(focus (first|(simp;done)|(simp [*];done)));(focus (exact sz)))|skip
noncomputable def d393 (c:bc):(aa)×bc:=zi (Ca c)
@[simp] theorem acA (c:bc):Gw TT 393 [.ptr [.ro false (.sl 1 (c.b.map eb)),.ro false (di (c.i:Nat)),.ro false (di c.h)]]=some (.st [.ro false (di (d393 c).1.Ty),.ro false (di (d393 c).1.N),.ro false (.str (d393 c).1.S)],[(0,0,.ro false (.sl 1 ((d393 c).2.b.map eb))),(0,1,.ro false (di ((d393 c).2.i:Nat))),(0,2,.ro false (di (d393 c).2.h))]):=(ze (Ca c)).1
theorem U4 (c:bc):(d393 c).1.S.size≤100:=(ze (Ca c)).2
theorem Cf (c:bc):∃r:(List Int)×bc,Gw TT 399 [.ptr [.ro false (.sl 1 (c.b.map eb)),.ro false (di (c.i:Nat)),.ro false (di c.h)]]=some (.one (.own (.sl 1 (r.1.map ei))),[(0,0,.ro false (.sl 1 (r.2.b.map eb))),(0,1,.ro false (di (r.2.i:Nat))),(0,2,.ro false (di r.2.h))])∧(1≤r.1.length∧r.1.length≤3):=by
 suffices h0:∃y,Gw TT 399 [.ptr [.ro false (.sl 1 (c.b.map eb)),.ro false (di (c.i:Nat)),.ro false (di c.h)]]=some y∧∃r:(List Int)×bc,y=(.one (.own (.sl 1 (r.1.map ei))),[(0,0,.ro false (.sl 1 (r.2.b.map eb))),(0,1,.ro false (di (r.2.i:Nat))),(0,2,.ro false (di r.2.h))])∧(1≤r.1.length∧r.1.length≤3) by
  obtain ⟨y,h1,r,rfl,h2⟩:=h0;exact ⟨r,h1,h2⟩
 refine eW (F:=qq) rfl rfl ?_;show Wp _ E4 _ _;unfold E4;have q:=tx c 6;obtain ⟨⟨v,c1⟩,hv⟩:∃r,d375 c 6=r:=⟨_,rfl⟩;rw [hv] at q;simp only at q;have q2:=q.2.1 (by omega);rcases (by omega:v=0∨v=1∨v=2∨v=3∨v=4∨v=5) with rfl|rfl|rfl|rfl|rfl|rfl
 ·repeat' (first
   |with_reducible (first|refine wp_seq ?_|refine aU ?_|refine wp_skip ?_|refine wp_exit ?_|refine wp_ret ?_|refine aQ ?_|refine aR ?_|refine aP ?_|refine aC ?_|refine aD ?_|refine aB ?_|refine aM ?_|refine aL ?_|refine aO ?_|refine aK ?_|refine aJ ?_|refine aG ?_|refine aF ?_|refine aI ?_|refine aH ?_)
   |(with_reducible refine aV fun K hK=>?_
     simp[hv]
     repeat' (with_reducible first|refine hK _ ?_|(refine aw ?_ ?_<;>(intro hc;(try rw [za] at hc);first|(exfalso;omega)|(try simp [hc,hv]))))
     all_goals (clear hK;clear K))
   |(with_reducible refine aW ?_
     refine ⟨_,rfl,?_,?_⟩<;>(intro hc;(try simp at hc);(all_goals first|(exfalso;omega)|skip))))
  all_goals (refine ⟨_,by simp [qq];rfl,?_⟩;refine ⟨(([1]:List Int),c1),?_,?_,?_⟩;(focus (first|(simp;done)|(simp [*];done)));(focus (simp));(focus (simp)))
 ·repeat' (first
   |with_reducible (first|refine wp_seq ?_|refine aU ?_|refine wp_skip ?_|refine wp_exit ?_|refine wp_ret ?_|refine aQ ?_|refine aR ?_|refine aP ?_|refine aC ?_|refine aD ?_|refine aB ?_|refine aM ?_|refine aL ?_|refine aO ?_|refine aK ?_|refine aJ ?_|refine aG ?_|refine aF ?_|refine aI ?_|refine aH ?_)
   |(with_reducible refine aV fun K hK=>?_
     simp[hv]
     repeat' (with_reducible first|refine hK _ ?_|(refine aw ?_ ?_<;>(intro hc;(try rw [za] at hc);first|(exfalso;omega)|(try simp [hc,hv]))))
     all_goals (clear hK;clear K))
   |(with_reducible refine aW ?_
     refine ⟨_,rfl,?_,?_⟩<;>(intro hc;(try simp at hc);(all_goals first|(exfalso;omega)|skip))))
  all_goals (refine ⟨_,by simp [qq];rfl,?_⟩;refine ⟨(([2]:List Int),c1),?_,?_,?_⟩;(focus (first|(simp;done)|(simp [*];done)));(focus (simp));(focus (simp)))
 ·repeat' (first
   |with_reducible (first|refine wp_seq ?_|refine aU ?_|refine wp_skip ?_|refine wp_exit ?_|refine wp_ret ?_|refine aQ ?_|refine aR ?_|refine aP ?_|refine aC ?_|refine aD ?_|refine aB ?_|refine aM ?_|refine aL ?_|refine aO ?_|refine aK ?_|refine aJ ?_|refine aG ?_|refine aF ?_|refine aI ?_|refine aH ?_)
   |(with_reducible refine aV fun K hK=>?_
     simp[hv]
     repeat' (with_reducible first|refine hK _ ?_|(refine aw ?_ ?_<;>(intro hc;(try rw [za] at hc);first|(exfalso;omega)|(try simp [hc,hv]))))
     all_goals (clear hK;clear K))
   |(with_reducible refine aW ?_
     refine ⟨_,rfl,?_,?_⟩<;>(intro hc;(try simp at hc);(all_goals first|(exfalso;omega)|skip))))
  all_goals (refine ⟨_,by simp [qq];rfl,?_⟩;refine ⟨(([1,2]:List Int),c1),?_,?_,?_⟩;(focus (first|(simp;done)|(simp [*];done)));(focus (simp));(focus (simp)))
 ·repeat' (first
   |with_reducible (first|refine wp_seq ?_|refine aU ?_|refine wp_skip ?_|refine wp_exit ?_|refine wp_ret ?_|refine aQ ?_|refine aR ?_|refine aP ?_|refine aC ?_|refine aD ?_|refine aB ?_|refine aM ?_|refine aL ?_|refine aO ?_|refine aK ?_|refine aJ ?_|refine aG ?_|refine aF ?_|refine aI ?_|refine aH ?_)
   |(with_reducible refine aV fun K hK=>?_
     simp[hv]
     repeat' (with_reducible first|refine hK _ ?_|(refine aw ?_ ?_<;>(intro hc;(try rw [za] at hc);first|(exfalso;omega)|(try simp [hc,hv]))))
     all_goals (clear hK;clear K))
   |(with_reducible refine aW ?_
     refine ⟨_,rfl,?_,?_⟩<;>(intro hc;(try simp at hc);(all_goals first|(exfalso;omega)|skip))))
  all_goals (refine ⟨_,by simp [qq];rfl,?_⟩;refine ⟨(([1,1]:List Int),c1),?_,?_,?_⟩;(focus (first|(simp;done)|(simp [*];done)));(focus (simp));(focus (simp)))
 ·repeat' (first
   |with_reducible (first|refine wp_seq ?_|refine aU ?_|refine wp_skip ?_|refine wp_exit ?_|refine wp_ret ?_|refine aQ ?_|refine aR ?_|refine aP ?_|refine aC ?_|refine aD ?_|refine aB ?_|refine aM ?_|refine aL ?_|refine aO ?_|refine aK ?_|refine aJ ?_|refine aG ?_|refine aF ?_|refine aI ?_|refine aH ?_)
   |(with_reducible refine aV fun K hK=>?_
     simp[hv]
     repeat' (with_reducible first|refine hK _ ?_|(refine aw ?_ ?_<;>(intro hc;(try rw [za] at hc);first|(exfalso;omega)|(try simp [hc,hv]))))
     all_goals (clear hK;clear K))
   |(with_reducible refine aW ?_
     refine ⟨_,rfl,?_,?_⟩<;>(intro hc;(try simp at hc);(all_goals first|(exfalso;omega)|skip))))
  all_goals (refine ⟨_,by simp [qq];rfl,?_⟩;refine ⟨(([2,1]:List Int),c1),?_,?_,?_⟩;(focus (first|(simp;done)|(simp [*];done)));(focus (simp));(focus (simp)))
 ·repeat' (first
   |with_reducible (first|refine wp_seq ?_|refine aU ?_|refine wp_skip ?_|refine wp_exit ?_|refine wp_ret ?_|refine aQ ?_|refine aR ?_|refine aP ?_|refine aC ?_|refine aD ?_|refine aB ?_|refine aM ?_|refine aL ?_|refine aO ?_|refine aK ?_|refine aJ ?_|refine aG ?_|refine aF ?_|refine aI ?_|refine aH ?_)
   |(with_reducible refine aV fun K hK=>?_
     simp[hv]
     repeat' (with_reducible first|refine hK _ ?_|(refine aw ?_ ?_<;>(intro hc;(try rw [za] at hc);first|(exfalso;omega)|(try simp [hc,hv]))))
     all_goals (clear hK;clear K))
   |(with_reducible refine aW ?_
     refine ⟨_,rfl,?_,?_⟩<;>(intro hc;(try simp at hc);(all_goals first|(exfalso;omega)|skip))))
  all_goals (refine ⟨_,by simp [qq];rfl,?_⟩;refine ⟨(([1,2,1]:List Int),c1),?_,?_,?_⟩;(focus (first|(simp;done)|(simp [*];done)));(focus (simp));(focus (simp)))
noncomputable def d399 (c:bc):(List Int)×bc:=zi (Cf c)
@[simp] theorem acF (c:bc):Gw TT 399 [.ptr [.ro false (.sl 1 (c.b.map eb)),.ro false (di (c.i:Nat)),.ro false (di c.h)]]=some (.one (.own (.sl 1 ((d399 c).1.map ei))),[(0,0,.ro false (.sl 1 ((d399 c).2.b.map eb))),(0,1,.ro false (di ((d399 c).2.i:Nat))),(0,2,.ro false (di (d399 c).2.h))]):=(ze (Cf c)).1
theorem Ef (c:bc):1≤(d399 c).1.length∧(d399 c).1.length≤3:=(ze (Cf c)).2
theorem Cg (c:bc) (k0:Bool) (ab:List Int) (h:ab.length≤1000):∃r:(List aa)×bc,Gw TT 401 [.ptr [.ro false (.sl 1 (c.b.map eb)),.ro false (di (c.i:Nat)),.ro false (di c.h)],.one (.ro k0 (.sl 1 (ab.map ei)))]=some (.one (.own (.sl 3 (r.1.map aa.e))),[(0,0,.ro false (.sl 1 (r.2.b.map eb))),(0,1,.ro false (di (r.2.i:Nat))),(0,2,.ro false (di r.2.h))])∧(r.1.length≤1000∧aa.aq r.1):=by
 suffices h0:∃y,Gw TT 401 [.ptr [.ro false (.sl 1 (c.b.map eb)),.ro false (di (c.i:Nat)),.ro false (di c.h)],.one (.ro k0 (.sl 1 (ab.map ei)))]=some y∧∃r:(List aa)×bc,y=(.one (.own (.sl 3 (r.1.map aa.e))),[(0,0,.ro false (.sl 1 (r.2.b.map eb))),(0,1,.ro false (di (r.2.i:Nat))),(0,2,.ro false (di r.2.h))])∧(r.1.length≤1000∧aa.aq r.1) by
  obtain ⟨y,h1,r,rfl,h2⟩:=h0;exact ⟨r,h1,h2⟩
 refine eW (F:=Hp) rfl rfl ?_;show Wp _ E5 _ _;unfold E5
 repeat' (first
  |with_reducible (first|refine wp_seq ?_|refine aU ?_|refine wp_skip ?_|refine wp_exit ?_|refine wp_ret ?_|refine aQ ?_|refine aR ?_|refine aP ?_|refine aC ?_|refine aD ?_|refine aB ?_|refine aM ?_|refine aL ?_|refine aO ?_|refine aK ?_|refine aJ ?_|refine aG ?_|refine aF ?_|refine aI ?_|refine aH ?_)
  |(with_reducible refine aV fun K hK=>?_
    simp
    repeat' (with_reducible first|refine hK _ ?_|(refine aw ?_ ?_<;>(intro hc;(try rw [za] at hc);first|(exfalso;omega)|(try simp [hc]))))
    all_goals (clear hK;clear K))
  |(with_reducible refine aW ?_
    refine ⟨_,rfl,?_,?_⟩<;>(intro hc;(try simp at hc);(all_goals first|(exfalso;omega)|skip))))
 refine ba (σ:=List Int×List Int×List aa×bc) (fun s=>[(0,AV.bx 0 0,some (Rt.bx [.ro false (.sl 1 (s.2.2.2.b.map eb)),.ro false (di (s.2.2.2.i:Nat)),.ro false (di s.2.2.2.h)])),(1,AV.v k0 (D.sl 1 (ab.map ei)),none),(5,AV.pl 5 0 [],some (Rt.an [C.own (D.sl 3 (s.2.2.1.map aa.e))])),(6,AV.v false (di ((s.1.length:Nat):Int)),none)]) (fun s=>ab=s.1++s.2.1∧s.2.2.1.length=s.1.length∧aa.aq s.2.2.1) (fun s=>s.2.1.length) ([],ab,[],c) (by simp) ⟨rfl,rfl,fun y hy=>by simp at hy⟩ ?_;rintro ⟨pre,rest,acc,c1⟩ ⟨h1,h2,h3⟩;simp only at h1 h2 h3;subst h1;simp only [zd,zb] at h;rcases rest with _|⟨d,rest⟩
 ·unfold H'
  repeat' (first
   |with_reducible (first|refine wp_seq ?_|refine aU ?_|refine wp_skip ?_|refine wp_exit ?_|refine wp_ret ?_|refine aQ ?_|refine aR ?_|refine aP ?_|refine aC ?_|refine aD ?_|refine aB ?_|refine aM ?_|refine aL ?_|refine aO ?_|refine aK ?_|refine aJ ?_|refine aG ?_|refine aF ?_|refine aI ?_|refine aH ?_)
   |(with_reducible refine aV fun K hK=>?_
     simp
     repeat' (with_reducible first|refine hK _ ?_|(refine aw ?_ ?_<;>(intro hc;(try rw [za] at hc);first|(exfalso;omega)|(try simp [hc]))))
     all_goals (clear hK;clear K))
   |(with_reducible refine aW ?_
     refine ⟨_,rfl,?_,?_⟩<;>(intro hc;(try simp at hc);(all_goals first|(exfalso;omega)|skip))))
  all_goals first|(exfalso;omega)|(refine ⟨_,by simp [Hp];rfl,?_⟩;refine ⟨(acc,c1),?_,?_,?_⟩;(focus (first|(simp;done)|(simp [*];done)));(focus (simp only;simp only [zg] at h;omega));(focus (exact h3)))
 ·unfold H';simp only [zb] at h;have hw:IntKind.wrap .i64 ((pre.length:Int)+1)=(pre.length:Int)+1:=wrap_i64 (by omega) (by omega);have cv:(acc.length+1)*32≤70368744177664:=by omega
  have a1:aa.aq (acc++[(d395 c1).1]):=fun y hy=>by
   rcases zK.1 hy with hy|hy
   ·exact h3 y hy
   ·rw [zM.1 hy];have:=Ng c1;simp only [aa.sm];omega
  have a2:aa.aq (acc++[(d396 c1).1]):=fun y hy=>by
   rcases zK.1 hy with hy|hy
   ·exact h3 y hy
   ·rw [zM.1 hy];have:=Nh c1;simp only [aa.sm];omega
  by_cases e:d=1
  ·repeat' (first
    |with_reducible (first|refine wp_seq ?_|refine aU ?_|refine wp_skip ?_|refine wp_exit ?_|refine wp_ret ?_|refine aQ ?_|refine aR ?_|refine aP ?_|refine aC ?_|refine aD ?_|refine aB ?_|refine aM ?_|refine aL ?_|refine aO ?_|refine aK ?_|refine aJ ?_|refine aG ?_|refine aF ?_|refine aI ?_|refine aH ?_)
    |(with_reducible refine aV fun K hK=>?_
      simp[hw,cv,e]
      repeat' (with_reducible first|refine hK _ ?_|(refine aw ?_ ?_<;>(intro hc;(try rw [za] at hc);first|(exfalso;omega)|(try simp [hc,hw,cv,e]))))
      all_goals (clear hK;clear K))
    |(with_reducible refine aW ?_
      refine ⟨_,rfl,?_,?_⟩<;>(intro hc;(try simp at hc);(all_goals first|(exfalso;omega)|skip))))
   all_goals first|(exfalso;omega)|exact ⟨(pre++[d],rest,acc++[(d395 c1).1],(d395 c1).2),by simp [e],⟨by simp,by simp [h2],a1⟩,by simp⟩|skip
  ·repeat' (first
    |with_reducible (first|refine wp_seq ?_|refine aU ?_|refine wp_skip ?_|refine wp_exit ?_|refine wp_ret ?_|refine aQ ?_|refine aR ?_|refine aP ?_|refine aC ?_|refine aD ?_|refine aB ?_|refine aM ?_|refine aL ?_|refine aO ?_|refine aK ?_|refine aJ ?_|refine aG ?_|refine aF ?_|refine aI ?_|refine aH ?_)
    |(with_reducible refine aV fun K hK=>?_
      simp[hw,cv,e]
      repeat' (with_reducible first|refine hK _ ?_|(refine aw ?_ ?_<;>(intro hc;(try rw [za] at hc);first|(exfalso;omega)|(try simp [hc,hw,cv,e]))))
      all_goals (clear hK;clear K))
    |(with_reducible refine aW ?_
      refine ⟨_,rfl,?_,?_⟩<;>(intro hc;(try simp at hc);(all_goals first|(exfalso;omega)|skip))))
   all_goals first|(exfalso;omega)|exact ⟨(pre++[d],rest,acc++[(d396 c1).1],(d396 c1).2),by simp,⟨by simp,by simp [h2],a2⟩,by simp⟩|skip
noncomputable def d401 (c:bc) (k0:Bool) (ab:List Int) (h:ab.length≤1000):(List aa)×bc:=zi (Cg c k0 ab h)
@[simp] theorem acG (c:bc) (k0:Bool) (ab:List Int) (h:ab.length≤1000):Gw TT 401 [.ptr [.ro false (.sl 1 (c.b.map eb)),.ro false (di (c.i:Nat)),.ro false (di c.h)],.one (.ro k0 (.sl 1 (ab.map ei)))]=some (.one (.own (.sl 3 ((d401 c k0 ab h).1.map aa.e))),[(0,0,.ro false (.sl 1 ((d401 c k0 ab h).2.b.map eb))),(0,1,.ro false (di ((d401 c k0 ab h).2.i:Nat))),(0,2,.ro false (di (d401 c k0 ab h).2.h))]):=(ze (Cg c k0 ab h)).1
theorem Eg (c:bc) (k0:Bool) (ab:List Int) (h:ab.length≤1000):(d401 c k0 ab h).1.length≤1000∧aa.aq (d401 c k0 ab h).1:=(ze (Cg c k0 ab h)).2
theorem Ce (c:bc) (k0:Bool) (ab:List Int) (h:ab.length≤1000):∃r:(List aa)×bc,Gw TT 398 [.ptr [.ro false (.sl 1 (c.b.map eb)),.ro false (di (c.i:Nat)),.ro false (di c.h)],.one (.ro k0 (.sl 1 (ab.map ei)))]=some (.one (.own (.sl 3 (r.1.map aa.e))),[(0,0,.ro false (.sl 1 (r.2.b.map eb))),(0,1,.ro false (di (r.2.i:Nat))),(0,2,.ro false (di r.2.h))])∧(r.1.length≤1001∧aa.aq r.1):=by
 suffices h0:∃y,Gw TT 398 [.ptr [.ro false (.sl 1 (c.b.map eb)),.ro false (di (c.i:Nat)),.ro false (di c.h)],.one (.ro k0 (.sl 1 (ab.map ei)))]=some y∧∃r:(List aa)×bc,y=(.one (.own (.sl 3 (r.1.map aa.e))),[(0,0,.ro false (.sl 1 (r.2.b.map eb))),(0,1,.ro false (di (r.2.i:Nat))),(0,2,.ro false (di r.2.h))])∧(r.1.length≤1001∧aa.aq r.1) by
  obtain ⟨y,h1,r,rfl,h2⟩:=h0;exact ⟨r,h1,h2⟩
 refine eW (F:=rT) rfl rfl ?_;show Wp _ E3 _ _;unfold E3;have q:=Eg c k0 ab h;obtain ⟨⟨l,c1⟩,hl⟩:∃r,d401 c k0 ab h=r:=⟨_,rfl⟩;rw [hl] at q;simp only at q;obtain ⟨q1,q2⟩:=q;obtain ⟨⟨v,c2⟩,hv⟩:∃r,d375 c1 8=r:=⟨_,rfl⟩;have cv:(l.length+1)*32≤70368744177664:=by omega
 have p1:=U4 c2
 have a1:aa.aq (l++[(d393 c2).1]):=fun y hy=>by
  rcases zK.1 hy with hy|hy
  ·exact q2 y hy
  ·rw [zM.1 hy];simp only [aa.sm];omega
 rcases l with _|⟨x,l⟩
 ·repeat' (first
   |with_reducible (first|refine wp_seq ?_|refine aU ?_|refine wp_skip ?_|refine wp_exit ?_|refine wp_ret ?_|refine aQ ?_|refine aR ?_|refine aP ?_|refine aC ?_|refine aD ?_|refine aB ?_|refine aM ?_|refine aL ?_|refine aO ?_|refine aK ?_|refine aJ ?_|refine aG ?_|refine aF ?_|refine aI ?_|refine aH ?_)
   |(with_reducible refine aV fun K hK=>?_
     simp[h,hl,hv,cv]
     repeat' (with_reducible first|refine hK _ ?_|(refine aw ?_ ?_<;>(intro hc;(try rw [za] at hc);first|(exfalso;omega)|(try simp [hc,h,hl,hv,cv]))))
     all_goals (clear hK;clear K))
   |(with_reducible refine aW ?_
     refine ⟨_,rfl,?_,?_⟩<;>(intro hc;(try simp at hc);(all_goals first|(exfalso;omega)|skip))))
  all_goals first|(exfalso;omega)|(refine ⟨_,by simp [rT];rfl,?_⟩;refine ⟨([(d393 c2).1],(d393 c2).2),?_,?_,?_⟩;(focus (first|(simp;done)|(simp [*];done)));(focus (simp));(focus (simpa using a1)))|(refine ⟨_,by simp [rT];rfl,?_⟩;refine ⟨([],c2),?_,?_,?_⟩;(focus (first|(simp;done)|(simp [*];done)));(focus (simp));(focus (exact q2)))|skip
 ·simp only [zb] at cv
  have a2:aa.aq ((d393 c2).1::l):=fun y hy=>by
   rcases zA.1 hy with rfl|hy
   ·simp only [aa.sm];omega
   ·exact q2 y (zU _ hy)
  repeat' (first
   |with_reducible (first|refine wp_seq ?_|refine aU ?_|refine wp_skip ?_|refine wp_exit ?_|refine wp_ret ?_|refine aQ ?_|refine aR ?_|refine aP ?_|refine aC ?_|refine aD ?_|refine aB ?_|refine aM ?_|refine aL ?_|refine aO ?_|refine aK ?_|refine aJ ?_|refine aG ?_|refine aF ?_|refine aI ?_|refine aH ?_)
   |(with_reducible refine aV fun K hK=>?_
     simp[h,hl,hv,cv]
     repeat' (with_reducible first|refine hK _ ?_|(refine aw ?_ ?_<;>(intro hc;(try rw [za] at hc);first|(exfalso;omega)|(try simp [hc,h,hl,hv,cv]))))
     all_goals (clear hK;clear K))
   |(with_reducible refine aW ?_
     refine ⟨_,rfl,?_,?_⟩<;>(intro hc;(try simp at hc);(all_goals first|(exfalso;omega)|skip))))
  all_goals first|(exfalso;omega)|(refine ⟨_,by simp [rT];rfl,?_⟩;refine ⟨(x::l++[(d393 c2).1],(d393 c2).2),?_,?_,?_⟩;(focus (first|(simp;done)|(simp [*];done)));(focus (simp only [zd,zb,zg] at q1 ⊢;omega));(focus (exact a1)))|(refine ⟨_,by simp [rT];rfl,?_⟩;refine ⟨((d393 c2).1::l,(d393 c2).2),?_,?_,?_⟩;(focus (first|(simp;done)|(simp [*];done)));(focus (simp only [zb] at q1 ⊢;omega));(focus (exact a2)))|(refine ⟨_,by simp [rT];rfl,?_⟩;refine ⟨(x::l,c2),?_,?_,?_⟩;(focus (first|(simp;done)|(simp [*];done)));(focus (simp only;omega));(focus (exact q2)))|skip
noncomputable def d398 (c:bc) (k0:Bool) (ab:List Int) (h:ab.length≤1000):(List aa)×bc:=zi (Ce c k0 ab h)
@[simp] theorem acE (c:bc) (k0:Bool) (ab:List Int) (h:ab.length≤1000):Gw TT 398 [.ptr [.ro false (.sl 1 (c.b.map eb)),.ro false (di (c.i:Nat)),.ro false (di c.h)],.one (.ro k0 (.sl 1 (ab.map ei)))]=some (.one (.own (.sl 3 ((d398 c k0 ab h).1.map aa.e))),[(0,0,.ro false (.sl 1 ((d398 c k0 ab h).2.b.map eb))),(0,1,.ro false (di ((d398 c k0 ab h).2.i:Nat))),(0,2,.ro false (di (d398 c k0 ab h).2.h))]):=(ze (Ce c k0 ab h)).1
theorem U6 (c:bc) (k0:Bool) (ab:List Int) (h:ab.length≤1000):(d398 c k0 ab h).1.length≤1001∧aa.aq (d398 c k0 ab h).1:=(ze (Ce c k0 ab h)).2
def jW (n:Int):List aj:=zx (if 1≤n∧n≤4 then n.toNat else 1) ⟨0,[]⟩
theorem Kp:1≤(jW n).length∧(jW n).length≤4:=by
 unfold jW;simp only [zS];split<;>omega
theorem Kq:aj.aq (jW n):=by
 intro y hy;obtain ⟨_,rfl⟩:=zZ.1 hy;simp [aj.sm,aa.aq]
@[simp] theorem t9:Gw TT 9 [vi n]=some (.st [.ro false (di 0),.own (.sl 2 ((jW n).map aj.e))],[]):=by
 refine dD (F:=AJ) rfl rfl ?_;show Wp _ G9 _ _;unfold G9;by_cases hb:1≤n∧n≤4
 ·obtain ⟨dR,dh⟩:=hb;have dK:0≤n:=by omega
  have sW:n.toNat*32≤140737488355328:=by omega
  repeat' (first
   |with_reducible (first|refine wp_seq ?_|refine aU ?_|refine wp_skip ?_|refine wp_exit ?_|refine wp_ret ?_|refine aQ ?_|refine aR ?_|refine aP ?_|refine aC ?_|refine aD ?_|refine aB ?_|refine aM ?_|refine aL ?_|refine aO ?_|refine aK ?_|refine aJ ?_|refine aG ?_|refine aF ?_|refine aI ?_|refine aH ?_)
   |(with_reducible refine aV fun K hK=>?_
     simp[dR,dh,dK,sW]
     repeat' (with_reducible first|refine hK _ ?_|(refine aw ?_ ?_<;>(intro hc;(try rw [za] at hc);first|(exfalso;omega)|(try simp [hc,dR,dh,dK,sW]))))
     all_goals (clear hK;clear K))
   |(with_reducible refine aW ?_
     refine ⟨_,rfl,?_,?_⟩<;>(intro hc;(try simp at hc);(all_goals first|(exfalso;omega)|skip))))
  all_goals first|(simp [AJ,jW,dR,dh];done)|(exfalso;omega)
 ·repeat' (first
   |with_reducible (first|refine wp_seq ?_|refine aU ?_|refine wp_skip ?_|refine wp_exit ?_|refine wp_ret ?_|refine aQ ?_|refine aR ?_|refine aP ?_|refine aC ?_|refine aD ?_|refine aB ?_|refine aM ?_|refine aL ?_|refine aO ?_|refine aK ?_|refine aJ ?_|refine aG ?_|refine aF ?_|refine aI ?_|refine aH ?_)
   |(with_reducible refine aV fun K hK=>?_
     simp[hb]
     repeat' (with_reducible first|refine hK _ ?_|(refine aw ?_ ?_<;>(intro hc;(try rw [za] at hc);first|(exfalso;omega)|(try simp [hc,hb]))))
     all_goals (clear hK;clear K))
   |(with_reducible refine aW ?_
     refine ⟨_,rfl,?_,?_⟩<;>(intro hc;(try simp at hc);(all_goals first|(exfalso;omega)|skip))))
  all_goals first|(simp [AJ,jW,hb];done)|(exfalso;omega)
@[simp] theorem t265:Gw TT 265 [vi n]=some (.st [.ro false (di 0),.own (.sl 2 ((jW n).map aj.e))],[]):=by
 refine dD (F:=rP) rfl rfl ?_;show Wp _ Es _ _;unfold Es;by_cases hb:1≤n∧n≤4
 ·rcases (by omega:n=1∨n=2∨n=3∨n=4) with rfl|rfl|rfl|rfl;all_goals skip
  ·repeat' (first
    |with_reducible (first|refine wp_seq ?_|refine aU ?_|refine wp_skip ?_|refine wp_exit ?_|refine wp_ret ?_|refine aQ ?_|refine aR ?_|refine aP ?_|refine aC ?_|refine aD ?_|refine aB ?_|refine aM ?_|refine aL ?_|refine aO ?_|refine aK ?_|refine aJ ?_|refine aG ?_|refine aF ?_|refine aI ?_|refine aH ?_)
    |(with_reducible refine wp_loop (c:=nh) ?_
      conv=>arg 2;unfold nh)
    |(with_reducible refine aV fun K hK=>?_
      simp[zg]
      repeat' (with_reducible first|refine hK _ ?_|(refine aw ?_ ?_<;>(intro hc;(try rw [za] at hc);first|(exfalso;omega)|(try simp [hc,zg]))))
      all_goals (clear hK;clear K))
    |(with_reducible refine aW ?_
      refine ⟨_,rfl,?_,?_⟩<;>(intro hc;(try simp at hc);(all_goals first|(exfalso;omega)|skip))))
   all_goals first|(simp [rP,jW,zx];done)|(exfalso;omega)
  ·repeat' (first
    |with_reducible (first|refine wp_seq ?_|refine aU ?_|refine wp_skip ?_|refine wp_exit ?_|refine wp_ret ?_|refine aQ ?_|refine aR ?_|refine aP ?_|refine aC ?_|refine aD ?_|refine aB ?_|refine aM ?_|refine aL ?_|refine aO ?_|refine aK ?_|refine aJ ?_|refine aG ?_|refine aF ?_|refine aI ?_|refine aH ?_)
    |(with_reducible refine wp_loop (c:=nh) ?_
      conv=>arg 2;unfold nh)
    |(with_reducible refine aV fun K hK=>?_
      simp[zg]
      repeat' (with_reducible first|refine hK _ ?_|(refine aw ?_ ?_<;>(intro hc;(try rw [za] at hc);first|(exfalso;omega)|(try simp [hc,zg]))))
      all_goals (clear hK;clear K))
    |(with_reducible refine aW ?_
      refine ⟨_,rfl,?_,?_⟩<;>(intro hc;(try simp at hc);(all_goals first|(exfalso;omega)|skip))))
   all_goals first|(simp [rP,jW,zx];done)|(exfalso;omega)
  ·repeat' (first
    |with_reducible (first|refine wp_seq ?_|refine aU ?_|refine wp_skip ?_|refine wp_exit ?_|refine wp_ret ?_|refine aQ ?_|refine aR ?_|refine aP ?_|refine aC ?_|refine aD ?_|refine aB ?_|refine aM ?_|refine aL ?_|refine aO ?_|refine aK ?_|refine aJ ?_|refine aG ?_|refine aF ?_|refine aI ?_|refine aH ?_)
    |(with_reducible refine wp_loop (c:=nh) ?_
      conv=>arg 2;unfold nh)
    |(with_reducible refine aV fun K hK=>?_
      simp[zg]
      repeat' (with_reducible first|refine hK _ ?_|(refine aw ?_ ?_<;>(intro hc;(try rw [za] at hc);first|(exfalso;omega)|(try simp [hc,zg]))))
      all_goals (clear hK;clear K))
    |(with_reducible refine aW ?_
      refine ⟨_,rfl,?_,?_⟩<;>(intro hc;(try simp at hc);(all_goals first|(exfalso;omega)|skip))))
   all_goals first|(simp [rP,jW,zx];done)|(exfalso;omega)
  ·repeat' (first
    |with_reducible (first|refine wp_seq ?_|refine aU ?_|refine wp_skip ?_|refine wp_exit ?_|refine wp_ret ?_|refine aQ ?_|refine aR ?_|refine aP ?_|refine aC ?_|refine aD ?_|refine aB ?_|refine aM ?_|refine aL ?_|refine aO ?_|refine aK ?_|refine aJ ?_|refine aG ?_|refine aF ?_|refine aI ?_|refine aH ?_)
    |(with_reducible refine wp_loop (c:=nh) ?_
      conv=>arg 2;unfold nh)
    |(with_reducible refine aV fun K hK=>?_
      simp[zg]
      repeat' (with_reducible first|refine hK _ ?_|(refine aw ?_ ?_<;>(intro hc;(try rw [za] at hc);first|(exfalso;omega)|(try simp [hc,zg]))))
      all_goals (clear hK;clear K))
    |(with_reducible refine aW ?_
      refine ⟨_,rfl,?_,?_⟩<;>(intro hc;(try simp at hc);(all_goals first|(exfalso;omega)|skip))))
   all_goals first|(simp [rP,jW,zx];done)|(exfalso;omega)
 ·repeat' (first
   |with_reducible (first|refine wp_seq ?_|refine aU ?_|refine wp_skip ?_|refine wp_exit ?_|refine wp_ret ?_|refine aQ ?_|refine aR ?_|refine aP ?_|refine aC ?_|refine aD ?_|refine aB ?_|refine aM ?_|refine aL ?_|refine aO ?_|refine aK ?_|refine aJ ?_|refine aG ?_|refine aF ?_|refine aI ?_|refine aH ?_)
   |(with_reducible refine wp_loop (c:=nh) ?_
     conv=>arg 2;unfold nh)
   |(with_reducible refine aV fun K hK=>?_
     simp[hb]
     repeat' (with_reducible first|refine hK _ ?_|(refine aw ?_ ?_<;>(intro hc;(try rw [za] at hc);first|(exfalso;omega)|(try simp [hc,hb]))))
     all_goals (clear hK;clear K))
   |(with_reducible refine aW ?_
     refine ⟨_,rfl,?_,?_⟩<;>(intro hc;(try simp at hc);(all_goals first|(exfalso;omega)|skip))))
  all_goals first|(simp [rP,jW,hb];done)|(exfalso;omega)
def qH (n i:Int) (l:List aj):Bool:=match l[i.toNat]? with
 |some x=>decide (0≤i∧i<n∧x.jQ=0)
 |none=>false
def kr (n i:Int) (v:List aa) (l:List aj):List aj:=if qH n i l=true then l.set i.toNat ⟨-1,v⟩ else l
theorem JD (l:List aj):(kr n i v l).length=l.length:=by
 unfold kr;split<;>simp
theorem aax (l:List aj) (h:aj.aq l) (hv:v.length≤1048576) (hs:aa.aq v):aj.aq (kr n i v l):=by
 unfold kr;split
 ·intro y hy;rcases zt hy with hy|rfl
  ·exact h y hy
  ·exact ⟨hv,hs⟩
 ·exact h
theorem aaw {n i:Int} {l:List aj} (h:¬(0≤i∧i<n∧i<(l.length:Int))):qH n i l=false:=by
 unfold qH;split
 ·rename_i y hy;have:=(zf.1 hy).1;simp only [decide_eq_false_iff_not];intro hh;omega
 ·rfl
@[simp] theorem t347 (k1:Bool) (v:List aa) (h:bh.length≤1048576) (hs:aj.aq bh) (hv:v.length≤1048576) (jC:aa.aq v):Gw TT 347 [.st [.ro false (di bC),.ro k0 (.sl 2 (bh.map aj.e))],vi i,.one (.ro k1 (.sl 3 (v.map aa.e)))]=some (.a_ [.st [.ro false (di bC),.own (.sl 2 ((kr bC i v bh).map aj.e))],vb (qH bC i bh)],[]):=by
 refine dD (F:=vW) rfl rfl ?_;show Wp _ ED _ _;unfold ED;have hq:v.length*32≤70368744177664:=by omega
 by_cases hb:0≤i∧i<bC∧i<(bh.length:Int)
 ·obtain ⟨dR,dh,dK⟩:=hb;obtain ⟨x,hx⟩:∃x,bh[i.toNat]?=some x:=⟨_,zo (by omega)⟩;obtain ⟨ae,he⟩:=zf.1 hx;have n1:¬(bC≤i):=by omega
  have n2:¬((bh.length:Int)≤i):=by omega
  by_cases h0:x.jQ=0
  ·have hB:qH bC i bh=true:=by simp [qH,hx,dR,dh,h0]
   repeat' (first
    |with_reducible (first|refine wp_seq ?_|refine aU ?_|refine wp_skip ?_|refine wp_exit ?_|refine wp_ret ?_|refine aQ ?_|refine aR ?_|refine aP ?_|refine aC ?_|refine aD ?_|refine aB ?_|refine aM ?_|refine aL ?_|refine aO ?_|refine aK ?_|refine aJ ?_|refine aG ?_|refine aF ?_|refine aI ?_|refine aH ?_)
    |(with_reducible refine aV fun K hK=>?_
      simp[h,hs,hv,jC,hq,dR,dh,dK,n1,n2,ae,hx,he,h0]
      repeat' (with_reducible first|refine hK _ ?_|(refine aw ?_ ?_<;>(intro hc;(try rw [za] at hc);first|(exfalso;omega)|(try simp [hc,h,hs,hv,jC,hq,dR,dh,dK,n1,n2,ae,hx,he,h0]))))
      all_goals (clear hK;clear K))
    |(with_reducible refine aW ?_
      refine ⟨_,rfl,?_,?_⟩<;>(intro hc;(try simp at hc);(all_goals first|(exfalso;omega)|skip))))
   all_goals first|(simp [vW,kr,hB];done)|(exfalso;omega)
  ·have hB:qH bC i bh=false:=by simp [qH,hx,h0]
   repeat' (first
    |with_reducible (first|refine wp_seq ?_|refine aU ?_|refine wp_skip ?_|refine wp_exit ?_|refine wp_ret ?_|refine aQ ?_|refine aR ?_|refine aP ?_|refine aC ?_|refine aD ?_|refine aB ?_|refine aM ?_|refine aL ?_|refine aO ?_|refine aK ?_|refine aJ ?_|refine aG ?_|refine aF ?_|refine aI ?_|refine aH ?_)
    |(with_reducible refine aV fun K hK=>?_
      simp[h,hs,hv,jC,hq,dR,dh,dK,n1,n2,ae,hx,he,h0]
      repeat' (with_reducible first|refine hK _ ?_|(refine aw ?_ ?_<;>(intro hc;(try rw [za] at hc);first|(exfalso;omega)|(try simp [hc,h,hs,hv,jC,hq,dR,dh,dK,n1,n2,ae,hx,he,h0]))))
      all_goals (clear hK;clear K))
    |(with_reducible refine aW ?_
      refine ⟨_,rfl,?_,?_⟩<;>(intro hc;(try simp at hc);(all_goals first|(exfalso;omega)|skip))))
   all_goals first|(simp [vW,kr,hB];done)|(exfalso;omega)
 ·have hB:=aaw hb
  repeat' (first
   |with_reducible (first|refine wp_seq ?_|refine aU ?_|refine wp_skip ?_|refine wp_exit ?_|refine wp_ret ?_|refine aQ ?_|refine aR ?_|refine aP ?_|refine aC ?_|refine aD ?_|refine aB ?_|refine aM ?_|refine aL ?_|refine aO ?_|refine aK ?_|refine aJ ?_|refine aG ?_|refine aF ?_|refine aI ?_|refine aH ?_)
   |(with_reducible refine aV fun K hK=>?_
     simp[h,hs,hv,jC,hq]
     repeat' (with_reducible first|refine hK _ ?_|(refine aw ?_ ?_<;>(intro hc;(try rw [za] at hc);first|(exfalso;omega)|(try simp [hc,h,hs,hv,jC,hq]))))
     all_goals (clear hK;clear K))
   |(with_reducible refine aW ?_
     refine ⟨_,rfl,?_,?_⟩<;>(intro hc;(try simp at hc);(all_goals first|(exfalso;omega)|skip))))
  all_goals first|(simp [vW,kr,hB];done)|(exfalso;omega)|(exfalso;simp_all;omega)
theorem B8 (c:bc) (k0:Bool) (ab:List Int) (h:ab.length≤1000):∃r:(dw)×bc,Gw TT 360 [.ptr [.ro false (.sl 1 (c.b.map eb)),.ro false (di (c.i:Nat)),.ro false (di c.h)],.one (.ro k0 (.sl 1 (ab.map ei)))]=some (.st [.ro false (di r.1.Next),.own (.sl 2 (r.1.L.map aj.e))],[(0,0,.ro false (.sl 1 (r.2.b.map eb))),(0,1,.ro false (di (r.2.i:Nat))),(0,2,.ro false (di r.2.h))])∧(1≤r.1.L.length∧r.1.L.length≤4∧aj.aq r.1.L):=by
 suffices h0:∃y,Gw TT 360 [.ptr [.ro false (.sl 1 (c.b.map eb)),.ro false (di (c.i:Nat)),.ro false (di c.h)],.one (.ro k0 (.sl 1 (ab.map ei)))]=some y∧∃r:(dw)×bc,y=(.st [.ro false (di r.1.Next),.own (.sl 2 (r.1.L.map aj.e))],[(0,0,.ro false (.sl 1 (r.2.b.map eb))),(0,1,.ro false (di (r.2.i:Nat))),(0,2,.ro false (di r.2.h))])∧(1≤r.1.L.length∧r.1.L.length≤4∧aj.aq r.1.L) by
  obtain ⟨y,h1,r,rfl,h2⟩:=h0;exact ⟨r,h1,h2⟩
 refine eW (F:=Hg) rfl rfl ?_;show Wp _ EH _ _;unfold EH;have q2:=tx (d375 c 4).2 6;have hn:((d375 (d375 c 4).2 6).1.toNat:Int)=(d375 (d375 c 4).2 6).1:=zW q2.1;have q4:=q2.2.1 (by omega);have Kh:=Kp (IntKind.wrap .i64 (1+(d375 c 4).1));have PB:=Kq (IntKind.wrap .i64 (1+(d375 c 4).1))
 repeat' (first
  |with_reducible (first|refine wp_seq ?_|refine aU ?_|refine wp_skip ?_|refine wp_exit ?_|refine wp_ret ?_|refine aQ ?_|refine aR ?_|refine aP ?_|refine aC ?_|refine aD ?_|refine aB ?_|refine aM ?_|refine aL ?_|refine aO ?_|refine aK ?_|refine aJ ?_|refine aG ?_|refine aF ?_|refine aI ?_|refine aH ?_)
  |(with_reducible refine aV fun K hK=>?_
    simp
    repeat' (with_reducible first|refine hK _ ?_|(refine aw ?_ ?_<;>(intro hc;(try rw [za] at hc);first|(exfalso;omega)|(try simp [hc]))))
    all_goals (clear hK;clear K))
  |(with_reducible refine aW ?_
    refine ⟨_,rfl,?_,?_⟩<;>(intro hc;(try simp at hc);(all_goals first|(exfalso;omega)|skip))))
 refine ba (σ:=Nat×dw×bc) (fun s=>[(0,AV.bx 0 0,some (Rt.bx [.ro false (.sl 1 (s.2.2.b.map eb)),.ro false (di (s.2.2.i:Nat)),.ro false (di s.2.2.h)])),(1,AV.v k0 (D.sl 1 (ab.map ei)),none),(4,AV.bx 4 0,some (Rt.bx [.ro false (di 0),.own (.sl 2 [])])),(5,AV.bx 5 0,some (Rt.bx [.ro false (di s.2.1.Next),.own (.sl 2 (s.2.1.L.map aj.e))])),(6,AV.v false (di (s.1:Nat)),none)]) (fun s=>s.1≤10∧1≤s.2.1.L.length∧s.2.1.L.length≤4∧aj.aq s.2.1.L) (fun s=>s.1) ((d375 (d375 c 4).2 6).1.toNat,⟨0,(jW (IntKind.wrap .i64 (1+(d375 c 4).1)))⟩,(d375 (d375 c 4).2 6).2) (by simp [hn]) ⟨by simp only;omega,Kh.1,Kh.2,PB⟩ ?_;rintro ⟨n,x,c1⟩ ⟨h1,h2,h3,h4⟩;simp only at h1 h2 h3 h4;rcases n with _|n
 ·unfold H8
  repeat' (first
   |with_reducible (first|refine wp_seq ?_|refine aU ?_|refine wp_skip ?_|refine wp_exit ?_|refine wp_ret ?_|refine aQ ?_|refine aR ?_|refine aP ?_|refine aC ?_|refine aD ?_|refine aB ?_|refine aM ?_|refine aL ?_|refine aO ?_|refine aK ?_|refine aJ ?_|refine aG ?_|refine aF ?_|refine aI ?_|refine aH ?_)
   |(with_reducible refine aV fun K hK=>?_
     simp
     repeat' (with_reducible first|refine hK _ ?_|(refine aw ?_ ?_<;>(intro hc;(try rw [za] at hc);first|(exfalso;omega)|(try simp [hc]))))
     all_goals (clear hK;clear K))
   |(with_reducible refine aW ?_
     refine ⟨_,rfl,?_,?_⟩<;>(intro hc;(try simp at hc);(all_goals first|(exfalso;omega)|skip))))
  all_goals first|(exfalso;omega)|(refine ⟨_,by simp [Hg];rfl,?_⟩;refine ⟨(x,c1),?_,?_,?_,?_⟩;(focus (first|(simp;done)|(simp [*];done)));(focus (exact h2));(focus (exact h3));(focus (exact h4)))
 ·unfold H8;have lS:IntKind.wrap .i64 (n:Int)=(n:Int):=wrap_i64 (by omega) (by omega);have pv:=Eg (d382 c1 4).2 k0 ab h;have v1:(d401 (d382 c1 4).2 k0 ab h).1.length≤1048576:=by omega
  have v2:=pv.2;have x1:x.L.length≤1048576:=by omega
  have w1:(kr (kT x.Next x.L) (lx x.Next x.L) (d401 (d382 c1 4).2 k0 ab h).1 x.L).length≤1048576:=by rw [JD];omega
  have w2:aj.aq (kr (kT x.Next x.L) (lx x.Next x.L) (d401 (d382 c1 4).2 k0 ab h).1 x.L):=aax _ _ _ _ h4 v1 v2;have s1:(np (lx x.Next x.L) (IntKind.wrap .i64 (1+(d375 (d382 (d401 (d382 c1 4).2 k0 ab h).2 3).2 6).1)) (kr (kT x.Next x.L) (lx x.Next x.L) (d401 (d382 c1 4).2 k0 ab h).1 x.L)).length=x.L.length:=by rw [V',JD]
  have s2:aj.aq (np (lx x.Next x.L) (IntKind.wrap .i64 (1+(d375 (d382 (d401 (d382 c1 4).2 k0 ab h).2 3).2 6).1)) (kr (kT x.Next x.L) (lx x.Next x.L) (d401 (d382 c1 4).2 k0 ab h).1 x.L)):=Wa _ _ _ w2;have wl:(kr (kT x.Next x.L) (lx x.Next x.L) (d401 (d382 c1 4).2 k0 ab h).1 x.L).length=x.L.length:=JD _ _ _ _
  repeat' (first
   |with_reducible (first|refine wp_seq ?_|refine aU ?_|refine wp_skip ?_|refine wp_exit ?_|refine wp_ret ?_|refine aQ ?_|refine aR ?_|refine aP ?_|refine aC ?_|refine aD ?_|refine aB ?_|refine aM ?_|refine aL ?_|refine aO ?_|refine aK ?_|refine aJ ?_|refine aG ?_|refine aF ?_|refine aI ?_|refine aH ?_)
   |(with_reducible refine aV fun K hK=>?_
     simp[lS,h,x1,h4,v1,v2,w1,w2]
     repeat' (with_reducible first|refine hK _ ?_|(refine aw ?_ ?_<;>(intro hc;(try rw [za] at hc);first|(exfalso;omega)|(try simp [hc,lS,h,x1,h4,v1,v2,w1,w2]))))
     all_goals (clear hK;clear K))
   |(with_reducible refine aW ?_
     refine ⟨_,rfl,?_,?_⟩<;>(intro hc;(try simp at hc);(all_goals first|(exfalso;omega)|skip))))
  all_goals first|(exfalso;omega)|(refine ⟨(n,⟨(kT x.Next x.L),x.L⟩,c1),?_,⟨?_,?_,?_,?_⟩,?_⟩;(focus (first|(simp [lS];done)|(simp [*];done)));(focus (simp only;omega));(focus (exact h2));(focus (exact h3));(focus (exact h4));(focus (simp;done)))|(refine ⟨(n,⟨(kT x.Next x.L),x.L⟩,(d382 c1 4).2),?_,⟨?_,?_,?_,?_⟩,?_⟩;(focus (first|(simp [lS];done)|(simp [*];done)));(focus (simp only;omega));(focus (exact h2));(focus (exact h3));(focus (exact h4));(focus (simp;done)))|(refine ⟨(n,⟨(kT x.Next x.L),(kr (kT x.Next x.L) (lx x.Next x.L) (d401 (d382 c1 4).2 k0 ab h).1 x.L)⟩,(d382 (d401 (d382 c1 4).2 k0 ab h).2 3).2),?_,⟨?_,?_,?_,?_⟩,?_⟩;(focus (first|(simp [lS];done)|(simp [*];done)));(focus (simp only;omega));(focus (simp only;omega));(focus (simp only;omega));(focus (exact w2));(focus (simp;done)))|(refine ⟨(n,⟨(kT x.Next x.L),(np (lx x.Next x.L) (IntKind.wrap .i64 (1+(d375 (d382 (d401 (d382 c1 4).2 k0 ab h).2 3).2 6).1)) (kr (kT x.Next x.L) (lx x.Next x.L) (d401 (d382 c1 4).2 k0 ab h).1 x.L))⟩,(d375 (d382 (d401 (d382 c1 4).2 k0 ab h).2 3).2 6).2),?_,⟨?_,?_,?_,?_⟩,?_⟩;(focus (first|(simp [lS];done)|(simp [*];done)));(focus (simp only;omega));(focus (simp only;omega));(focus (simp only;omega));(focus (exact s2));(focus (simp;done)))|skip
noncomputable def d360 (c:bc) (k0:Bool) (ab:List Int) (h:ab.length≤1000):(dw)×bc:=zi (B8 c k0 ab h)
@[simp] theorem t360 (c:bc) (k0:Bool) (ab:List Int) (h:ab.length≤1000):Gw TT 360 [.ptr [.ro false (.sl 1 (c.b.map eb)),.ro false (di (c.i:Nat)),.ro false (di c.h)],.one (.ro k0 (.sl 1 (ab.map ei)))]=some (.st [.ro false (di (d360 c k0 ab h).1.Next),.own (.sl 2 ((d360 c k0 ab h).1.L.map aj.e))],[(0,0,.ro false (.sl 1 ((d360 c k0 ab h).2.b.map eb))),(0,1,.ro false (di ((d360 c k0 ab h).2.i:Nat))),(0,2,.ro false (di (d360 c k0 ab h).2.h))]):=(ze (B8 c k0 ab h)).1
theorem Nd (c:bc) (k0:Bool) (ab:List Int) (h:ab.length≤1000):1≤(d360 c k0 ab h).1.L.length∧(d360 c k0 ab h).1.L.length≤4∧aj.aq (d360 c k0 ab h).1.L:=(ze (B8 c k0 ab h)).2
theorem B7 (c:bc) (k0:Bool) (ab:List Int) (h:ab.length≤1000):∃r:(dw)×bc,Gw TT 358 [.ptr [.ro false (.sl 1 (c.b.map eb)),.ro false (di (c.i:Nat)),.ro false (di c.h)],.one (.ro k0 (.sl 1 (ab.map ei)))]=some (.st [.ro false (di r.1.Next),.own (.sl 2 (r.1.L.map aj.e))],[(0,0,.ro false (.sl 1 (r.2.b.map eb))),(0,1,.ro false (di (r.2.i:Nat))),(0,2,.ro false (di r.2.h))])∧(r.1.L.length≤6∧aj.aq r.1.L):=by
 suffices h0:∃y,Gw TT 358 [.ptr [.ro false (.sl 1 (c.b.map eb)),.ro false (di (c.i:Nat)),.ro false (di c.h)],.one (.ro k0 (.sl 1 (ab.map ei)))]=some y∧∃r:(dw)×bc,y=(.st [.ro false (di r.1.Next),.own (.sl 2 (r.1.L.map aj.e))],[(0,0,.ro false (.sl 1 (r.2.b.map eb))),(0,1,.ro false (di (r.2.i:Nat))),(0,2,.ro false (di r.2.h))])∧(r.1.L.length≤6∧aj.aq r.1.L) by
  obtain ⟨y,h1,r,rfl,h2⟩:=h0;exact ⟨r,h1,h2⟩
 refine eW (F:=rS) rfl rfl ?_;show Wp _ EF _ _;unfold EF;have q:=Nd c k0 ab h;obtain ⟨⟨x,c1⟩,hx⟩:∃r,d360 c k0 ab h=r:=⟨_,rfl⟩;rw [hx] at q;obtain ⟨nx,l⟩:=x;simp only at q;obtain ⟨q1,q2,q3⟩:=q;rcases l with _|⟨⟨ins,vl⟩,l⟩
 ·simp at q1
 obtain ⟨⟨v,c2⟩,hv⟩:∃r,d375 c1 12=r:=⟨_,rfl⟩;simp only [zb] at q1 q2;have MD:IntKind.wrap .i64 ((l.length:Int)+1+1)=(l.length:Int)+1+1:=wrap_i64 (by omega) (by omega);obtain ⟨r,gr⟩:∃r:Int×bc,Gw TT 378 [.ptr [.ro false (.sl 1 (c2.b.map eb)),.ro false (di (c2.i:Nat)),.ro false (di c2.h)],.one (.ro true (.sl 1 [[di (-1)],[di 0],[di ((l.length:Int)+1)],[di ((l.length:Int)+1+1)]]))]=some (vi r.1,[(0,0,.ro false (.sl 1 (r.2.b.map eb))),(0,1,.ro false (di (r.2.i:Nat))),(0,2,.ro false (di r.2.h))]):=⟨_,qD c2 true [[di (-1)],[di 0],[di ((l.length:Int)+1)],[di ((l.length:Int)+1+1)]] (by simp) (by simp) (by simp)⟩;have cv:(l.length+1+2)*32≤70368744177664:=by omega
 have pa:=U6 c2 k0 ab h;have hd:=q3 ⟨ins,vl⟩ (by simp);simp only [aj.sm] at hd;have u0:aj.aq l:=fun y hy=>q3 y (zU _ hy)
 have u1:aj.aq (⟨(d357 c2).1,vl⟩::l):=fun y hy=>by
  rcases zA.1 hy with rfl|hy
  ·exact hd
  ·exact u0 y hy
 have u2:aj.aq (⟨ins,(d398 c2 k0 ab h).1⟩::l):=fun y hy=>by
  rcases zA.1 hy with rfl|hy
  ·exact ⟨by simp only;omega,pa.2⟩
  ·exact u0 y hy
 have u3:aj.aq (⟨ins,vl⟩::l++[⟨0,[]⟩,⟨0,[]⟩]):=fun y hy=>by
  rcases zK.1 hy with hy|hy
  ·exact q3 y hy
  ·have:y=⟨0,[]⟩:=by simpa using hy
   rw [this];simp [aj.sm,aa.aq]
 repeat' (first
  |with_reducible (first|refine wp_seq ?_|refine aU ?_|refine wp_skip ?_|refine wp_exit ?_|refine wp_ret ?_|refine aQ ?_|refine aR ?_|refine aP ?_|refine aC ?_|refine aD ?_|refine aB ?_|refine aM ?_|refine aL ?_|refine aO ?_|refine aK ?_|refine aJ ?_|refine aG ?_|refine aF ?_|refine aI ?_|refine aH ?_)
  |(with_reducible refine aV fun K hK=>?_
    simp[h,hx,hv,gr,cv,MD]
    repeat' (with_reducible first|refine hK _ ?_|(refine aw ?_ ?_<;>(intro hc;(try rw [za] at hc);first|(exfalso;omega)|(try simp [hc,h,hx,hv,gr,cv,MD]))))
    all_goals (clear hK;clear K))
  |(with_reducible refine aW ?_
    refine ⟨_,rfl,?_,?_⟩<;>(intro hc;(try simp at hc);(all_goals first|(exfalso;omega)|skip))))
 all_goals first|(exfalso;omega)|(refine ⟨_,by simp [rS];rfl,?_⟩;refine ⟨((⟨r.1,⟨ins,vl⟩::l⟩:dw),r.2),?_,?_,?_⟩;(focus (first|(simp;done)|(simp [*];done)));(focus (simp only [zb];omega));(focus (exact q3)))|(refine ⟨_,by simp [rS];rfl,?_⟩;refine ⟨((⟨nx,⟨(d357 c2).1,vl⟩::l⟩:dw),(d357 c2).2),?_,?_,?_⟩;(focus (first|(simp;done)|(simp [*];done)));(focus (simp only [zb];omega));(focus (exact u1)))|(refine ⟨_,by simp [rS];rfl,?_⟩;refine ⟨((⟨nx,⟨ins,(d398 c2 k0 ab h).1⟩::l⟩:dw),(d398 c2 k0 ab h).2),?_,?_,?_⟩;(focus (first|(simp;done)|(simp [*];done)));(focus (simp only [zb];omega));(focus (exact u2)))|(refine ⟨_,by simp [rS];rfl,?_⟩;refine ⟨((⟨nx,⟨ins,vl⟩::l++[⟨0,[]⟩,⟨0,[]⟩]⟩:dw),c2),?_,?_,?_⟩;(focus (first|(simp;done)|(simp [*];done)));(focus (simp only [zd,zb,zg];omega));(focus (exact u3)))|(refine ⟨_,by simp [rS];rfl,?_⟩;refine ⟨((⟨nx,⟨ins,vl⟩::l⟩:dw),c2),?_,?_,?_⟩;(focus (first|(simp;done)|(simp [*];done)));(focus (simp only [zb];omega));(focus (exact q3)))|skip
noncomputable def d358 (c:bc) (k0:Bool) (ab:List Int) (h:ab.length≤1000):(dw)×bc:=zi (B7 c k0 ab h)
@[simp] theorem t358 (c:bc) (k0:Bool) (ab:List Int) (h:ab.length≤1000):Gw TT 358 [.ptr [.ro false (.sl 1 (c.b.map eb)),.ro false (di (c.i:Nat)),.ro false (di c.h)],.one (.ro k0 (.sl 1 (ab.map ei)))]=some (.st [.ro false (di (d358 c k0 ab h).1.Next),.own (.sl 2 ((d358 c k0 ab h).1.L.map aj.e))],[(0,0,.ro false (.sl 1 ((d358 c k0 ab h).2.b.map eb))),(0,1,.ro false (di ((d358 c k0 ab h).2.i:Nat))),(0,2,.ro false (di (d358 c k0 ab h).2.h))]):=(ze (B7 c k0 ab h)).1
theorem U3 (c:bc) (k0:Bool) (ab:List Int) (h:ab.length≤1000):(d358 c k0 ab h).1.L.length≤6∧aj.aq (d358 c k0 ab h).1.L:=(ze (B7 c k0 ab h)).2
@[simp] theorem t209 (h:l.length≤1048576):Gw TT 209 [.one (.ro k0 (.sl 3 (l.map aa.e))),.one (.ro k1 (.sl 3 (l.map aa.e)))]=some (vb true,[]):=by
 refine dD (F:=Hc) rfl rfl ?_;show Wp _ Eo _ _;unfold Eo
 repeat' first|refine Zs ?_|(refine Xk fun K k=>?_;simp;(repeat' (with_reducible first|refine k _ ?_|(refine aw ?_ ?_<;>(intro hc;(try rw [za] at hc);first|(exfalso;omega)|(try simp [hc])))));all_goals clear k K)|(refine We rfl ?_ ?_<;>intro hc<;>(try simp at hc)<;>first|(exfalso;omega)|skip)
 refine ba (σ:=List aa×List aa) (fun s=>[(0,AV.v k0 (D.sl 3 (l.map aa.e)),none),(1,AV.v k1 (D.sl 3 (l.map aa.e)),none),(5,AV.v false (di ((s.1.length:Nat):Int)),none)]) (fun s=>l=s.1++s.2) (fun s=>s.2.length) ([],l) (by simp) rfl ?_;rintro ⟨pre,rest⟩ h1;simp only at h1;subst h1;simp only [zd,zb] at h;rcases rest with _|⟨d,rest⟩
 ·unfold H2
  repeat' first|refine Zs ?_|(refine Xk fun K k=>?_;simp;(repeat' (with_reducible first|refine k _ ?_|(refine aw ?_ ?_<;>(intro hc;(try rw [za] at hc);first|(exfalso;omega)|(try simp [hc])))));all_goals clear k K)|(refine We rfl ?_ ?_<;>intro hc<;>(try simp at hc)<;>first|(exfalso;omega)|skip)
  simp [Hc]
 ·unfold H2;simp only [zb] at h;have hw:=Wi ((pre.length:Int)+1) (by omega) (by omega)
  repeat' first|refine Zs ?_|(refine Xk fun K k=>?_;simp [hw];(repeat' (with_reducible first|refine k _ ?_|(refine aw ?_ ?_<;>(intro hc;(try rw [za] at hc);first|(exfalso;omega)|(try simp [hc,hw])))));all_goals clear k K)|(refine We rfl ?_ ?_<;>intro hc<;>(try simp at hc)<;>first|(exfalso;omega)|skip)
  exact ⟨(pre++[d],rest),by simp,by simp,by simp⟩
@[simp] theorem t199 (h:bh.length≤1048576) (hs:aj.aq bh):Gw TT 199 [.st [.ro false (di bC),.ro k0 (.sl 2 (bh.map aj.e))],.st [.ro false (di bC),.ro k1 (.sl 2 (bh.map aj.e))]]=some (vb true,[]):=by
 refine dD (F:=Ha) rfl rfl ?_;show Wp _ Em _ _;unfold Em
 repeat' first|refine Zs ?_|(refine Xk fun K k=>?_;simp;refine k _ ?_;clear k K)|(refine We rfl ?_ ?_<;>intro hc<;>(try simp at hc)<;>first|(exfalso;omega)|skip)
 refine ba (σ:=List aj×List aj) (fun s=>[(2,AV.bx 2 0,some (Rt.bx [.ro false (di bC),.ro k0 (.sl 2 (bh.map aj.e))])),(3,AV.bx 3 0,some (Rt.bx [.ro false (di bC),.ro k1 (.sl 2 (bh.map aj.e))])),(5,AV.v false (di ((s.1.length:Nat):Int)),none)]) (fun s=>bh=s.1++s.2) (fun s=>s.2.length) ([],bh) (by simp) rfl ?_;rintro ⟨pre,rest⟩ h1;simp only at h1;subst h1;simp only [zd,zb] at h;rcases rest with _|⟨d,rest⟩
 ·unfold HZ
  repeat' first|refine Zs ?_|(refine Xk fun K k=>?_;simp;refine k _ ?_;clear k K)|(refine We rfl ?_ ?_<;>intro hc<;>(try simp at hc)<;>first|(exfalso;omega)|skip)
  simp [Ha]
 ·unfold HZ;simp only [zb] at h;have hd:=hs d (by simp);simp only [aj.sm] at hd;obtain ⟨eQ,bp⟩:=hd;have hw:=Wi ((pre.length:Int)+1) (by omega) (by omega);have ae:(pre.length:Int)<(pre.length:Int)+((rest.length:Int)+1):=by omega
  repeat' first|refine Zs ?_|(refine Xk fun K k=>?_;simp [hw,eQ,ae];refine k _ ?_;clear k K)|(refine We rfl ?_ ?_<;>intro hc<;>(try simp at hc)<;>first|(exfalso;omega)|skip)
  exact ⟨(pre++[d],rest),by simp,by simp,by simp⟩
theorem J1 (bs:ByteArray):∀(k i:Nat) (r:List UInt8),bs.size-i=k→(zJ bs i r).length=k+r.length
 |0,i,r,h=>by
  rw [zJ,if_neg (by omega)];simp
 |k+1,i,r,h=>by
  rw [zJ,if_pos (by omega),J1 bs k (i+1) _ (by omega)];simp;omega
theorem BO (bs:ByteArray):bs.toList.length=bs.size:=by
 unfold ByteArray.toList;rw [J1 bs bs.size 0 [] (by omega)];simp
def rM (b:UInt8):Bool:=decide ((97≤b.toNat∧b.toNat≤122)∨(48≤b.toNat∧b.toNat≤57))
def ma:List UInt8→Bool
 |[]=>true
 |b::l=>if rM b=true then ma l else false
def fB (n:Int):Bool:=decide (-1000000000≤n)&&decide (n≤1000000000)
def cE (ty n:Int) (s:ByteArray):Bool:=if ty=1 then fB n&&(s.toList==(⟨#[]⟩:ByteArray).toList) else (decide (ty=2)&&(decide (n=0)&&(decide (s.size≤6)&&ma s.toList)))
@[simp] theorem t79:Gw TT 79 [vi n]=some (vb (fB n),[]):=by
 refine Ga HU G6 ?_;unfold G6;refine Uw Oo ?_;simp [HU,fB]
@[simp] theorem acz:Gw TT 384 [vi n]=some (vb (fB n),[]):=by
 refine Ga Hm EU ?_;unfold EU;refine Uw Oo ?_;simp [Hm,fB]
@[simp] theorem t60 (h:bt.size≤1048576):Gw TT 60 [.st [.ro false (di cy),.ro false (di cx),.ro false (.str bt)]]=some (vb (cE cy cx bt),[]):=by
 refine Ga sc GZ ?_;unfold GZ;by_cases u1:cy=1
 ·refine Uc u1 ?_ ?_;all_goals repeat intro hc
  all_goals simp_all [sc,cE]
 ·by_cases u2:cy=2
  ·refine Uc (J2 u1 u2) ?_;repeat intro hc
   refine ba (σ:=List UInt8×List UInt8) (fun s=>[(1,AV.bx 1 0,some (Rt.bx [.ro false (di cy),.ro false (di cx),.ro false (.str bt)])),(3,AV.v false (di ((s.1.length:Nat):Int)),none)]) (fun s=>bt.toList=s.1++s.2∧ma s.2=ma bt.toList) (fun s=>s.2.length) ([],bt.toList) (by simp [u2]) ⟨rfl,rfl⟩ ?_;rintro ⟨pre,rest⟩ ⟨h1,h2⟩;simp only at h1 h2;have hl:=BO bt;rw [h1,zd] at hl;rcases rest with _|⟨d,rest⟩
   ·simp only [zg] at hl;simp only [ma] at h2;have cg:(bt.size:Int)=(pre.length:Int):=by omega
    unfold I6;by_cases q1:pre.length≤6
    ·have q2:bt.size≤6:=by omega
     have q3:(pre.length:Int)≤6:=by omega
     refine Uc (J4 cg q1 q2 q3) ?_;repeat intro hc
     by_cases z:cx=0<;>simp_all [sc,cE]
    ·have q2:¬bt.size≤6:=by omega
     have q3:¬(pre.length:Int)≤6:=by omega
     refine Uc (J4 cg q1 q2 q3) ?_;repeat intro hc
     simp_all [sc,cE]
   ·simp only [zb] at hl;simp only [ma] at h2;have hg:bt.toList[pre.length]?=some d:=by rw [h1];simp
    have ae:(pre.length:Int)<(bt.size:Int):=by omega
    have gA:pre.length<bt.size:=by omega
    have hw:=Wi ((pre.length:Int)+1);unfold I6;by_cases o:rM d=true
    ·rw [if_pos o] at h2;simp only [rM,decide_eq_true_eq] at o;refine Uc (J4 hg ae gA hw) ?_ ?_;all_goals repeat intro hc
     all_goals exact ⟨(pre++[d],rest),by simp,⟨by rw [h1];simp,h2⟩,by simp⟩
    ·rw [if_neg o] at h2;have o2:=o;simp only [rM,decide_eq_true_eq] at o2;refine Uc (J4 hg ae gA hw) ?_ ?_ ?_;all_goals repeat intro hc
     all_goals simp [sc,cE,u1,u2,←h2]
  ·refine Uc (J2 u1 u2) ?_;repeat intro hc
   simp [sc,cE,u1,u2]
@[simp] theorem t341 (h:bt.size≤1048576):Gw TT 341 [.st [.ro false (di cy),.ro false (di cx),.ro false (.str bt)]]=some (vb (cE cy cx bt),[]):=by
 refine Ga rR EC ?_;unfold EC;by_cases u1:cy=1
 ·refine Uc u1 ?_ ?_;all_goals repeat intro hc
  all_goals simp_all [rR,cE]
 ·refine Uc u1 ?_;repeat intro hc
  refine ba (σ:=List UInt8×List UInt8) (fun s=>[(1,AV.bx 1 0,some (Rt.bx [.ro false (di cy),.ro false (di cx),.ro false (.str bt)])),(3,AV.v false (di ((s.1.length:Nat):Int)),none)]) (fun s=>bt.toList=s.1++s.2∧ma s.2=ma bt.toList) (fun s=>s.2.length) ([],bt.toList) (by simp) ⟨rfl,rfl⟩ ?_;rintro ⟨pre,rest⟩ ⟨h1,h2⟩;simp only at h1 h2;have hl:=BO bt;rw [h1,zd] at hl;rcases rest with _|⟨d,rest⟩
  ·simp only [zg] at hl;simp only [ma] at h2;have cg:(bt.size:Int)=(pre.length:Int):=by omega
   unfold H6;by_cases q1:pre.length≤6
   ·have q2:bt.size≤6:=by omega
    have q3:(pre.length:Int)≤6:=by omega
    refine Uc (J4 cg q1 q2 q3) ?_ ?_ ?_;all_goals repeat intro hc
    all_goals simp_all [rR,cE]
   ·have q2:¬bt.size≤6:=by omega
    have q3:¬(pre.length:Int)≤6:=by omega
    refine Uc (J4 cg q1 q2 q3) ?_ ?_ ?_;all_goals repeat intro hc
    all_goals simp_all [rR,cE]
  ·simp only [zb] at hl;simp only [ma] at h2;have hg:bt.toList[pre.length]?=some d:=by rw [h1];simp
   have ae:(pre.length:Int)<(bt.size:Int):=by omega
   have gA:pre.length<bt.size:=by omega
   have hw:=Wi ((pre.length:Int)+1);have DU:IntKind.wrap .i64 (d.toNat:Int)=(d.toNat:Int):=wrap_i64 (by omega) (by have:=d.toNat_lt;omega);unfold H6;by_cases q1:pre.length≤6
   ·have q3:(pre.length:Int)≤6:=by omega
    by_cases o:rM d=true
    ·rw [if_pos o] at h2;simp only [rM,decide_eq_true_eq] at o;refine Uc (J7 hg ae gA hw DU q1 q3) ?_ ?_;all_goals repeat intro hc
     all_goals exact ⟨(pre++[d],rest),by simp,⟨by rw [h1];simp,h2⟩,by simp⟩
    ·rw [if_neg o] at h2;have o2:=o;simp only [rM,decide_eq_true_eq] at o2;refine Uc (J7 hg ae gA hw DU q1 q3) ?_;repeat intro hc
     simp [rR,cE,u1,←h2]
   ·have q3:¬(pre.length:Int)≤6:=by omega
    have q2:¬bt.size≤6:=by omega
    have q4:¬(bt.size:Int)≤6:=by omega
    refine Uc (J8 hg ae gA hw DU q1 q3 q4) ?_ ?_ ?_;all_goals repeat intro hc
    all_goals simp [rR,cE,u1,q2,q4,q3]
def nC:List Int→List aa→Bool
 |_,[]=>true
 |[],_::_=>false
 |b::bs,v::l=>if cE v.Ty v.N v.S=true∧v.Ty=b then nC bs l else false
def jv (ab:List Int) (l:List aa):Bool:=decide (l.length=ab.length)&&nC ab l
@[simp] theorem t19 (h:ab.length≤1048576) (h5:l.length≤1048576) (hs:aa.aq l):Gw TT 19 [.one (.ro k0 (.sl 1 (ab.map ei))),.one (.ro k1 (.sl 3 (l.map aa.e)))]=some (vb (jv ab l),[]):=by
 refine Ga tA El ?_;unfold El;by_cases y0:l.length=ab.length
 ·have y1:(l.length:Int)=(ab.length:Int):=by omega
  refine Uw y1 ?_;repeat intro hc
  refine ba (σ:=List Int×List Int×List aa×List aa) (fun s=>[(0,AV.v k0 (D.sl 1 (ab.map ei)),none),(12,AV.v k1 (D.sl 3 (l.map aa.e)),none),(13,AV.v false (di (l.length:Nat)),none),(14,AV.v false (di ((s.2.2.1.length:Nat):Int)),none)]) (fun s=>ab=s.1++s.2.1∧l=s.2.2.1++s.2.2.2∧s.1.length=s.2.2.1.length∧nC s.2.1 s.2.2.2=nC ab l) (fun s=>s.2.2.2.length) ([],ab,[],l) (by simp [y1]) ⟨rfl,rfl,rfl,rfl⟩ ?_;rintro ⟨p1,r1,p2,r2⟩ ⟨h1,h2,h3,h4⟩;simp only at h1 h2 h3 h4;have y2:ab.length=p1.length+r1.length:=by rw [h1,zd]
  have y3:l.length=p2.length+r2.length:=by rw [h2,zd]
  rcases r2 with _|⟨d,r2⟩
  ·simp only [zg] at y3;simp only [nC] at h4;have y4:¬(p2.length:Int)<(l.length:Int):=by omega
   unfold wu;refine Uw y4 ?_;repeat intro hc
   simp [tA,jv,y0,←h4]
  ·rcases r1 with _|⟨b,r1⟩
   ·simp only [zg,zb] at y2 y3;omega
   simp only [zb] at y2 y3;have hd:=hs d (by rw [h2];simp);simp only [aa.sm] at hd;simp only [nC] at h4;have gy:ab[p2.length]?=some b:=by rw [h1,←h3];simp
   have bM:l[p2.length]?=some d:=by rw [h2];simp
   obtain ⟨gA,rh⟩:=zf.1 gy;obtain ⟨ae,cp⟩:=zf.1 bM;have y4:(p2.length:Int)<(l.length:Int):=by omega
   have y5:(p2.length:Int)<(ab.length:Int):=by omega
   have hw:IntKind.wrap .i64 ((p2.length:Int)+1)=(p2.length:Int)+1:=wrap_i64 (by omega) (by omega);unfold wu;by_cases o1:cE d.Ty d.N d.S=true
   ·by_cases o2:d.Ty=b
    ·rw [if_pos ⟨o1,o2⟩] at h4;have o3:cE b d.N d.S=true:=o2▸o1;refine Uw (J8 gy bM rh cp ae gA y4 (J6 y5 hw hd o1 o2 o3)) ?_;repeat intro hc
     exact ⟨(p1++[b],r1,p2++[d],r2),by simp,⟨by rw [h1];simp,by rw [h2];simp,by simp [h3],h4⟩,by simp⟩
    ·rw [if_neg (fun q=>o2 q.2)] at h4;have o4:(d.Ty==b)=false:=by simpa using o2
     have o5:(d.Ty !=b)=true:=by simpa using o2
     refine Uw (J8 gy bM rh cp ae gA y4 (J6 y5 hw hd o1 o4 o5)) ?_;repeat intro hc
     simp [tA,jv,y0,←h4]
   ·rw [if_neg (fun q=>o1 q.1)] at h4;have o3:cE d.Ty d.N d.S=false:=by simpa using o1
    refine Uw (J8 gy bM rh cp ae gA y4 (J4 y5 hw hd o3)) ?_;repeat intro hc
    simp [tA,jv,y0,←h4]
 ·have y1:¬(l.length:Int)=(ab.length:Int):=by omega
  have y2:¬(ab.length:Int)=(l.length:Int):=by omega
  repeat' (first
   |with_reducible (first|refine wp_seq ?_|refine aU ?_|refine wp_skip ?_|refine wp_exit ?_|refine wp_ret ?_|refine aQ ?_|refine aR ?_|refine aP ?_|refine aC ?_|refine aD ?_|refine aB ?_|refine aM ?_|refine aL ?_|refine aO ?_|refine aK ?_|refine aJ ?_|refine aG ?_|refine aF ?_|refine aI ?_|refine aH ?_)
   |(with_reducible refine wp_loop (c:=wu) ?_
     conv=>arg 2;unfold wu)
   |(with_reducible refine aV fun K hK=>?_
     simp[y1,y2]
     repeat' (with_reducible first|refine hK _ ?_|(refine aw ?_ ?_<;>(intro hc;(try rw [za] at hc);first|(exfalso;omega)|(try simp [hc,y1,y2]))))
     all_goals (clear hK;clear K))
   |(with_reducible refine aW ?_
     refine ⟨_,rfl,?_,?_⟩<;>(intro hc;(try simp at hc);(all_goals first|(exfalso;omega)|skip))))
  simp [tA,jv,y0]
@[simp] theorem t298 (h:ab.length≤1048576) (h5:l.length≤1048576) (hs:aa.aq l):Gw TT 298 [.one (.ro k0 (.sl 1 (ab.map ei))),.one (.ro k1 (.sl 3 (l.map aa.e)))]=some (vb (jv ab l),[]):=by
 refine Ga tB Ev ?_;unfold Ev;by_cases y0:l.length=ab.length
 ·have y1:(l.length:Int)=(ab.length:Int):=by omega
  refine Uw y1 ?_;repeat intro hc
  refine ba (σ:=List Int×List Int×List aa×List aa) (fun s=>[(0,AV.v k0 (D.sl 1 (ab.map ei)),none),(1,AV.v k1 (D.sl 3 (l.map aa.e)),none),(5,AV.v false (di ((s.2.2.1.length:Nat):Int)),none)]) (fun s=>ab=s.1++s.2.1∧l=s.2.2.1++s.2.2.2∧s.1.length=s.2.2.1.length∧nC s.2.1 s.2.2.2=nC ab l) (fun s=>s.2.2.2.length) ([],ab,[],l) (by simp [y1]) ⟨rfl,rfl,rfl,rfl⟩ ?_;rintro ⟨p1,r1,p2,r2⟩ ⟨h1,h2,h3,h4⟩;simp only at h1 h2 h3 h4;have y2:ab.length=p1.length+r1.length:=by rw [h1,zd]
  have y3:l.length=p2.length+r2.length:=by rw [h2,zd]
  rcases r2 with _|⟨d,r2⟩
  ·simp only [zg] at y3;simp only [nC] at h4;have y4:¬(p2.length:Int)<(l.length:Int):=by omega
   unfold wv;refine Uw y4 ?_;repeat intro hc
   simp [tB,jv,y0,←h4]
  ·rcases r1 with _|⟨b,r1⟩
   ·simp only [zg,zb] at y2 y3;omega
   simp only [zb] at y2 y3;have hd:=hs d (by rw [h2];simp);simp only [aa.sm] at hd;simp only [nC] at h4;have gy:ab[p2.length]?=some b:=by rw [h1,←h3];simp
   have bM:l[p2.length]?=some d:=by rw [h2];simp
   obtain ⟨gA,rh⟩:=zf.1 gy;obtain ⟨ae,cp⟩:=zf.1 bM;have y4:(p2.length:Int)<(l.length:Int):=by omega
   have y5:(p2.length:Int)<(ab.length:Int):=by omega
   have hw:IntKind.wrap .i64 ((p2.length:Int)+1)=(p2.length:Int)+1:=wrap_i64 (by omega) (by omega);unfold wv;by_cases o1:cE d.Ty d.N d.S=true
   ·by_cases o2:d.Ty=b
    ·rw [if_pos ⟨o1,o2⟩] at h4;have o3:cE b d.N d.S=true:=o2▸o1;refine Uw (J8 gy bM rh cp ae gA y4 (J6 y5 hw hd o1 o2 o3)) ?_;repeat intro hc
     exact ⟨(p1++[b],r1,p2++[d],r2),by simp,⟨by rw [h1];simp,by rw [h2];simp,by simp [h3],h4⟩,by simp⟩
    ·rw [if_neg (fun q=>o2 q.2)] at h4;have o4:(d.Ty==b)=false:=by simpa using o2
     have o5:(d.Ty !=b)=true:=by simpa using o2
     refine Uw (J8 gy bM rh cp ae gA y4 (J6 y5 hw hd o1 o4 o5)) ?_;repeat intro hc
     simp [tB,jv,y0,←h4]
   ·rw [if_neg (fun q=>o1 q.1)] at h4;have o3:cE d.Ty d.N d.S=false:=by simpa using o1
    refine Uw (J8 gy bM rh cp ae gA y4 (J4 y5 hw hd o3)) ?_;repeat intro hc
    simp [tB,jv,y0,←h4]
 ·have y1:¬(l.length:Int)=(ab.length:Int):=by omega
  have y2:¬(ab.length:Int)=(l.length:Int):=by omega
  repeat' (first
   |with_reducible (first|refine wp_seq ?_|refine aU ?_|refine wp_skip ?_|refine wp_exit ?_|refine wp_ret ?_|refine aQ ?_|refine aR ?_|refine aP ?_|refine aC ?_|refine aD ?_|refine aB ?_|refine aM ?_|refine aL ?_|refine aO ?_|refine aK ?_|refine aJ ?_|refine aG ?_|refine aF ?_|refine aI ?_|refine aH ?_)
   |(with_reducible refine wp_loop (c:=wv) ?_
     conv=>arg 2;unfold wv)
   |(with_reducible refine aV fun K hK=>?_
     simp[y1,y2]
     repeat' (with_reducible first|refine hK _ ?_|(refine aw ?_ ?_<;>(intro hc;(try rw [za] at hc);first|(exfalso;omega)|(try simp [hc,y1,y2]))))
     all_goals (clear hK;clear K))
   |(with_reducible refine aW ?_
     refine ⟨_,rfl,?_,?_⟩<;>(intro hc;(try simp at hc);(all_goals first|(exfalso;omega)|skip))))
  simp [tB,jv,y0]
def fJ (ab:List Int) (nx i:Int) (d:aj):Bool:=decide (-1≤d.jQ)&&(if d.jQ=0 then decide (d.L=[]) else decide (i<nx)&&jv ab d.L)
def nY (ab:List Int) (nx:Int):Int→List aj→Bool
 |_,[]=>true
 |i,d::l=>if fJ ab nx i d=true then nY ab nx (i+1) l else false
def hU (ab:List Int) (nx:Int) (l:List aj):Bool:=decide (1≤(l.length:Int)∧(l.length:Int)≤4)&&(decide (0≤nx∧nx≤(l.length:Int))&&nY ab nx 0 l)
@[simp] theorem t8:Gw TT 8 [vi n]=some (vb (decide (-1≤n)),[]):=by
 refine Ga HV G7 ?_;unfold G7;refine Uw Oo ?_;simp [HV]
@[simp] theorem t264:Gw TT 264 [vi n]=some (vb (decide (-1≤n)),[]):=by
 refine Ga He Er ?_;unfold Er;refine Uw Oo ?_;simp [He]
@[simp] theorem t10 (h:ab.length≤1048576) (k1:Bool) (bC:Int) (bh:List aj) (h5:bh.length≤1048576) (hs:aj.aq bh):Gw TT 10 [.one (.ro k0 (.sl 1 (ab.map ei))),.st [.ro false (di bC),.ro k1 (.sl 2 (bh.map aj.e))]]=some (vb (hU ab bC bh),[]):=by
 refine Ga pf Ei ?_;unfold Ei;by_cases b1:1≤(bh.length:Int)∧(bh.length:Int)≤4
 ·by_cases b2:0≤bC∧bC≤(bh.length:Int)
  ·obtain ⟨n1,n2⟩:=b1;obtain ⟨n3,n4⟩:=b2;refine Ud (J4 n1 n2 n3 n4) ?_;repeat intro hc
   refine ba (σ:=List aj×List aj) (fun s=>[(0,AV.v k0 (D.sl 1 (ab.map ei)),none),(3,AV.bx 3 0,some (Rt.bx [.ro false (di bC),.ro k1 (.sl 2 (bh.map aj.e))])),(22,AV.v k1 (D.sl 2 (bh.map aj.e)),none),(23,AV.v false (di (bh.length:Nat)),none),(24,AV.v false (di ((s.1.length:Nat):Int)),none)]) (fun s=>bh=s.1++s.2∧nY ab bC (s.1.length:Nat) s.2=nY ab bC 0 bh) (fun s=>s.2.length) ([],bh) (by simp) ⟨rfl,rfl⟩ ?_;rintro ⟨p2,r2⟩ ⟨h2,h4⟩;simp only at h2 h4;have y3:bh.length=p2.length+r2.length:=by rw [h2,zd]
   rcases r2 with _|⟨d,r2⟩
   ·simp only [zg] at y3;simp only [nY] at h4;have y4:¬(p2.length:Int)<(bh.length:Int):=by omega
    have y6:(p2.length:Int)=(bh.length:Int):=by omega
    unfold wq;refine Ud (J2 y4 y6) ?_;repeat intro hc
    simp [pf,hU,n1,n2,n3,n4,←h4]
   ·simp only [zb] at y3;have hd:=hs d (by rw [h2];simp);simp only [aj.sm] at hd;obtain ⟨eQ,bp⟩:=hd;simp only [nY] at h4;have bM:bh[p2.length]?=some d:=by rw [h2];simp
    obtain ⟨ae,cp⟩:=zf.1 bM;have y4:(p2.length:Int)<(bh.length:Int):=by omega
    have hw:IntKind.wrap .i64 ((p2.length:Int)+1)=(p2.length:Int)+1:=wrap_i64 (by omega) (by omega);unfold wq;by_cases g1:-1≤d.jQ
    ·by_cases g2:d.jQ=0
     ·by_cases g3:d.L=[]
      ·have o:fJ ab bC (p2.length:Nat) d=true:=by simp [fJ,g2,g3]
       rw [if_pos o] at h4;refine Ud (J8 bM cp ae y4 hw eQ bp (J3 h g2 g3)) ?_ ?_;all_goals repeat intro hc
       all_goals exact ⟨(p2++[d],r2),by simp,⟨by rw [h2];simp,by simpa using h4⟩,by simp⟩
      ·have Qz:=zX.2 g3;have o:¬fJ ab bC (p2.length:Nat) d=true:=by simp [fJ,g2,g3]
       rw [if_neg o] at h4;refine Ud (J8 bM cp ae y4 hw eQ bp (J3 h g2 g3)) ?_ ?_;all_goals repeat intro hc
       all_goals simp [pf,hU,n1,n2,n3,n4,←h4]
     ·by_cases g4:(p2.length:Int)<bC
      ·by_cases g5:jv ab d.L=true
       ·have o:fJ ab bC (p2.length:Nat) d=true:=by simp [fJ,g1,g2,g4,g5]
        rw [if_pos o] at h4;refine Ud (J8 bM cp ae y4 hw eQ bp (J5 h g1 g2 g4 g5)) ?_;repeat intro hc
        exact ⟨(p2++[d],r2),by simp,⟨by rw [h2];simp,by simpa using h4⟩,by simp⟩
       ·have uG:jv ab d.L=false:=by simpa using g5
        have o:¬fJ ab bC (p2.length:Nat) d=true:=by simp [fJ,g1,g2,g4,uG]
        rw [if_neg o] at h4;refine Ud (J8 bM cp ae y4 hw eQ bp (J5 h g1 g2 g4 uG)) ?_;repeat intro hc
        simp [pf,hU,n1,n2,n3,n4,←h4]
      ·have o:¬fJ ab bC (p2.length:Nat) d=true:=by simp [fJ,g1,g2,g4]
       rw [if_neg o] at h4;refine Ud (J8 bM cp ae y4 hw eQ bp (J4 h g1 g2 g4)) ?_;repeat intro hc
       simp [pf,hU,n1,n2,n3,n4,←h4]
    ·have o:¬fJ ab bC (p2.length:Nat) d=true:=by simp [fJ,g1]
     rw [if_neg o] at h4;refine Ud (J8 bM cp ae y4 hw eQ bp (J2 h g1)) ?_;repeat intro hc
     simp [pf,hU,n1,n2,n3,n4,←h4]
  ·repeat' (first
    |with_reducible (first|refine wp_seq ?_|refine aU ?_|refine wp_skip ?_|refine wp_exit ?_|refine wp_ret ?_|refine aQ ?_|refine aR ?_|refine aP ?_|refine aC ?_|refine aD ?_|refine aB ?_|refine aM ?_|refine aL ?_|refine aO ?_|refine aK ?_|refine aJ ?_|refine aG ?_|refine aF ?_|refine aI ?_|refine aH ?_)
    |(with_reducible refine wp_loop (c:=wq) ?_
      conv=>arg 2;unfold wq)
    |(with_reducible refine aV fun K hK=>?_
      simp[b1.1,b1.2]
      repeat' (with_reducible first|refine hK _ ?_|(refine aw ?_ ?_<;>(intro hc;(try rw [za] at hc);first|(exfalso;omega)|(try simp [hc,b1.1,b1.2]))))
      all_goals (clear hK;clear K))
    |(with_reducible refine aW ?_
      refine ⟨_,rfl,?_,?_⟩<;>(intro hc;(try simp at hc);(all_goals first|(exfalso;omega)|skip))))
   simp [pf,hU,b2]
 ·refine Ud Oo ?_;repeat intro hc
  simp [pf,hU,b1]
@[simp] theorem t266 (h:ab.length≤1048576) (k1:Bool) (bC:Int) (bh:List aj) (h5:bh.length≤1048576) (hs:aj.aq bh):Gw TT 266 [.one (.ro k0 (.sl 1 (ab.map ei))),.st [.ro false (di bC),.ro k1 (.sl 2 (bh.map aj.e))]]=some (vb (hU ab bC bh),[]):=by
 refine Ga qp Et ?_;unfold Et;refine Ud Oo ?_;refine ba (σ:=List aj×List aj) (fun s=>[(0,AV.v k0 (D.sl 1 (ab.map ei)),none),(3,AV.bx 3 0,some (Rt.bx [.ro false (di bC),.ro k1 (.sl 2 (bh.map aj.e))])),(5,AV.v false (di ((s.1.length:Nat):Int)),none)]) (fun s=>bh=s.1++s.2∧nY ab bC (s.1.length:Nat) s.2=nY ab bC 0 bh) (fun s=>s.2.length) ([],bh) (by simp) ⟨rfl,rfl⟩ ?_;rintro ⟨p2,r2⟩ ⟨h2,h4⟩;simp only at h2 h4;have y3:bh.length=p2.length+r2.length:=by rw [h2,zd]
 rcases r2 with _|⟨d,r2⟩
 ·simp only [zg] at y3;simp only [nY] at h4;have y4:¬(p2.length:Int)<(bh.length:Int):=by omega
  have y6:(p2.length:Int)=(bh.length:Int):=by omega
  unfold H4;refine Ud (J2 y4 y6) ?_ ?_;all_goals repeat intro hc
  all_goals first|(rw [←y6] at *;simp_all [qp,hU];done)|(exact (by simp [qp,hU,←h4];omega))
 ·simp only [zb] at y3;have hd:=hs d (by rw [h2];simp);simp only [aj.sm] at hd;obtain ⟨eQ,bp⟩:=hd;simp only [nY] at h4;have bM:bh[p2.length]?=some d:=by rw [h2];simp
  obtain ⟨ae,cp⟩:=zf.1 bM;have y4:(p2.length:Int)<(bh.length:Int):=by omega
  have hw:IntKind.wrap .i64 ((p2.length:Int)+1)=(p2.length:Int)+1:=wrap_i64 (by omega) (by omega);unfold H4;by_cases g1:-1≤d.jQ
  ·by_cases g2:d.jQ=0
   ·by_cases g3:d.L=[]
    ·have o:fJ ab bC (p2.length:Nat) d=true:=by simp [fJ,g2,g3]
     rw [if_pos o] at h4;refine Ud (J8 bM cp ae y4 hw eQ bp (J3 h g2 g3)) ?_;repeat intro hc
     exact ⟨(p2++[d],r2),by simp,⟨by rw [h2];simp,by simpa using h4⟩,by simp⟩
    ·have Qz:=zX.2 g3;have o:¬fJ ab bC (p2.length:Nat) d=true:=by simp [fJ,g2,g3]
     rw [if_neg o] at h4;refine Ud (J8 bM cp ae y4 hw eQ bp (J3 h g2 g3)) ?_;repeat intro hc
     simp [qp,hU,←h4]
   ·by_cases g4:(p2.length:Int)<bC
    ·by_cases g5:jv ab d.L=true
     ·have o:fJ ab bC (p2.length:Nat) d=true:=by simp [fJ,g1,g2,g4,g5]
      rw [if_pos o] at h4;refine Ud (J8 bM cp ae y4 hw eQ bp (J5 h g1 g2 g4 g5)) ?_;repeat intro hc
      exact ⟨(p2++[d],r2),by simp,⟨by rw [h2];simp,by simpa using h4⟩,by simp⟩
     ·have uG:jv ab d.L=false:=by simpa using g5
      have o:¬fJ ab bC (p2.length:Nat) d=true:=by simp [fJ,g1,g2,g4,uG]
      rw [if_neg o] at h4;refine Ud (J8 bM cp ae y4 hw eQ bp (J5 h g1 g2 g4 uG)) ?_;repeat intro hc
      simp [qp,hU,←h4]
    ·have o:¬fJ ab bC (p2.length:Nat) d=true:=by simp [fJ,g1,g2,g4]
     rw [if_neg o] at h4;refine Ud (J8 bM cp ae y4 hw eQ bp (J4 h g1 g2 g4)) ?_;repeat intro hc
     simp [qp,hU,←h4]
  ·have o:¬fJ ab bC (p2.length:Nat) d=true:=by simp [fJ,g1]
   rw [if_neg o] at h4;refine Ud (J8 bM cp ae y4 hw eQ bp (J2 h g1)) ?_;repeat intro hc
   simp [qp,hU,←h4]
def dn:Nat→List ak→Option Nat
 |_,[]=>none
 |n,d::l=>if d.Kind=0 then some n else dn (n+1) l
def lz (kind slots:Int) (d:ak):ak:=if kind=1 then ⟨d.dV,1,⟨0,jW slots⟩,[]⟩ else ⟨d.dV,2,⟨0,[]⟩,[0]⟩
def eF (kind slots:Int) (l:List ak):List ak:=if kind=1∨kind=2 then (match dn 0 l with
 |some n=>match l[n]? with
  |some d=>l.set n (lz kind slots d)
  |none=>l
 |none=>l) else l
def ff (kind:Int) (l:List ak):Int:=if kind=1∨kind=2 then (match dn 0 l with
 |some n=>(n:Int)
 |none=>-1) else -1
theorem WU (l:List ak):(eF kind slots l).length=l.length:=by
 unfold eF;split
 ·split
  ·split<;>simp
  ·rfl
 ·rfl
theorem WV (l:List ak) (h:ak.aq l):ak.aq (eF kind slots l):=by
 unfold eF;split
 ·split
  ·split
   ·intro y hy;rcases zt hy with hy|rfl
    ·exact h y hy
    ·unfold lz;have h1:=(Kp slots).2;have h2:=Kq slots;split
     ·simp [ak.sm,dw.sm];exact ⟨by omega,h2⟩
     ·simp [ak.sm,dw.sm,aj.aq]
   ·exact h
  ·exact h
 ·exact h
@[simp] theorem t57 (l:List ak) (kind slots:Int) (h:l.length≤1048576) (hs:ak.aq l):Gw TT 57 [.one (.ro k0 (.sl 5 (l.map ak.e))),vi kind,vi slots]=some (.a_ [.one (.own (.sl 5 ((eF kind slots l).map ak.e))),vi (ff kind l)],[]):=by
 refine dD (F:=r_) rfl rfl ?_;show Wp _ Gu _ _;unfold Gu;by_cases b1:kind=1
 ·subst b1
  repeat' (first
   |with_reducible (first|refine wp_seq ?_|refine aU ?_|refine wp_skip ?_|refine wp_exit ?_|refine wp_ret ?_|refine aQ ?_|refine aR ?_|refine aP ?_|refine aC ?_|refine aD ?_|refine aB ?_|refine aM ?_|refine aL ?_|refine aO ?_|refine aK ?_|refine aJ ?_|refine aG ?_|refine aF ?_|refine aI ?_|refine aH ?_)
   |(with_reducible refine aV fun K hK=>?_
     simp[h,hs]
     repeat' (with_reducible first|refine hK _ ?_|(refine aw ?_ ?_<;>(intro hc;(try rw [za] at hc);first|(exfalso;omega)|(try simp [hc,h,hs]))))
     all_goals (clear hK;clear K))
   |(with_reducible refine aW ?_
     refine ⟨_,rfl,?_,?_⟩<;>(intro hc;(try simp at hc);(all_goals first|(exfalso;omega)|skip))))
  refine ba (σ:=List ak×List ak) (fun s=>[(1,AV.v false (di 1),none),(2,AV.v false (di slots),none),(8,AV.pl 8 0 [],some (Rt.an [C.own (D.sl 5 ((l).map ak.e))])),(13,AV.pl 8 0 [],none),(14,AV.v false (di (l.length:Nat)),none),(15,AV.v false (di ((s.1.length:Nat):Int)),none)]) (fun s=>l=s.1++s.2∧dn s.1.length s.2=dn 0 l) (fun s=>s.2.length) ([],l) (by simp) ⟨rfl,rfl⟩ ?_;rintro ⟨p2,r2⟩ ⟨h2,h4⟩;simp only at h2 h4;have y3:l.length=p2.length+r2.length:=by rw [h2,zd]
  rcases r2 with _|⟨d,r2⟩
  ·simp only [zg] at y3;have y4:¬(p2.length:Int)<(l.length:Int):=by omega
   unfold sj;simp only [dn] at h4
   repeat' (first
    |with_reducible (first|refine wp_seq ?_|refine aU ?_|refine wp_skip ?_|refine wp_exit ?_|refine wp_ret ?_|refine aQ ?_|refine aR ?_|refine aP ?_|refine aC ?_|refine aD ?_|refine aB ?_|refine aM ?_|refine aL ?_|refine aO ?_|refine aK ?_|refine aJ ?_|refine aG ?_|refine aF ?_|refine aI ?_|refine aH ?_)
    |(with_reducible refine aV fun K hK=>?_
      simp[y4]
      repeat' (with_reducible first|refine hK _ ?_|(refine aw ?_ ?_<;>(intro hc;(try rw [za] at hc);first|(exfalso;omega)|(try simp [hc,y4]))))
      all_goals (clear hK;clear K))
    |(with_reducible refine aW ?_
      refine ⟨_,rfl,?_,?_⟩<;>(intro hc;(try simp at hc);(all_goals first|(exfalso;omega)|skip))))
   all_goals first|(simp [r_,eF,ff,←h4];done)|(exfalso;omega)|skip
  ·simp only [zb] at y3;have hd:=hs d (by rw [h2];simp);simp only [ak.sm,dw.sm] at hd;have bM:l[p2.length]?=some d:=by rw [h2];simp
   obtain ⟨ae,cp⟩:=zf.1 bM;have y4:(p2.length:Int)<(l.length:Int):=by omega
   have hw:IntKind.wrap .i64 ((p2.length:Int)+1)=(p2.length:Int)+1:=wrap_i64 (by omega) (by omega);unfold sj;by_cases o:d.Kind=0
   ·have h5:dn 0 l=some p2.length:=by rw [←h4];simp [dn,o]
    repeat' (first
     |with_reducible (first|refine wp_seq ?_|refine aU ?_|refine wp_skip ?_|refine wp_exit ?_|refine wp_ret ?_|refine aQ ?_|refine aR ?_|refine aP ?_|refine aC ?_|refine aD ?_|refine aB ?_|refine aM ?_|refine aL ?_|refine aO ?_|refine aK ?_|refine aJ ?_|refine aG ?_|refine aF ?_|refine aI ?_|refine aH ?_)
     |(with_reducible refine aV fun K hK=>?_
       simp[bM,cp,ae,y4,hw,h,hs,o]
       repeat' (with_reducible first|refine hK _ ?_|(refine aw ?_ ?_<;>(intro hc;(try rw [za] at hc);first|(exfalso;omega)|(try simp [hc,bM,cp,ae,y4,hw,h,hs,o]))))
       all_goals (clear hK;clear K))
     |(with_reducible refine aW ?_
       refine ⟨_,rfl,?_,?_⟩<;>(intro hc;(try simp at hc);(all_goals first|(exfalso;omega)|skip))))
    all_goals first|(simp [r_,eF,ff,lz,h5,bM,cp,ae];done)|(exfalso;omega)|skip
   ·have h5:dn (p2.length+1) r2=dn 0 l:=by rw [←h4];simp [dn,o]
    repeat' (first
     |with_reducible (first|refine wp_seq ?_|refine aU ?_|refine wp_skip ?_|refine wp_exit ?_|refine wp_ret ?_|refine aQ ?_|refine aR ?_|refine aP ?_|refine aC ?_|refine aD ?_|refine aB ?_|refine aM ?_|refine aL ?_|refine aO ?_|refine aK ?_|refine aJ ?_|refine aG ?_|refine aF ?_|refine aI ?_|refine aH ?_)
     |(with_reducible refine aV fun K hK=>?_
       simp[bM,cp,ae,y4,hw,h,hs,o]
       repeat' (with_reducible first|refine hK _ ?_|(refine aw ?_ ?_<;>(intro hc;(try rw [za] at hc);first|(exfalso;omega)|(try simp [hc,bM,cp,ae,y4,hw,h,hs,o]))))
       all_goals (clear hK;clear K))
     |(with_reducible refine aW ?_
       refine ⟨_,rfl,?_,?_⟩<;>(intro hc;(try simp at hc);(all_goals first|(exfalso;omega)|skip))))
    all_goals first|exact ⟨(p2++[d],r2),by simp,⟨by rw [h2];simp,by simpa using h5⟩,by simp⟩|(exfalso;omega)|skip
 by_cases b2:kind=2
 ·subst b2
  repeat' (first
   |with_reducible (first|refine wp_seq ?_|refine aU ?_|refine wp_skip ?_|refine wp_exit ?_|refine wp_ret ?_|refine aQ ?_|refine aR ?_|refine aP ?_|refine aC ?_|refine aD ?_|refine aB ?_|refine aM ?_|refine aL ?_|refine aO ?_|refine aK ?_|refine aJ ?_|refine aG ?_|refine aF ?_|refine aI ?_|refine aH ?_)
   |(with_reducible refine aV fun K hK=>?_
     simp[h,hs]
     repeat' (with_reducible first|refine hK _ ?_|(refine aw ?_ ?_<;>(intro hc;(try rw [za] at hc);first|(exfalso;omega)|(try simp [hc,h,hs]))))
     all_goals (clear hK;clear K))
   |(with_reducible refine aW ?_
     refine ⟨_,rfl,?_,?_⟩<;>(intro hc;(try simp at hc);(all_goals first|(exfalso;omega)|skip))))
  refine ba (σ:=List ak×List ak) (fun s=>[(1,AV.v false (di 2),none),(2,AV.v false (di slots),none),(8,AV.pl 8 0 [],some (Rt.an [C.own (D.sl 5 ((l).map ak.e))])),(13,AV.pl 8 0 [],none),(14,AV.v false (di (l.length:Nat)),none),(15,AV.v false (di ((s.1.length:Nat):Int)),none)]) (fun s=>l=s.1++s.2∧dn s.1.length s.2=dn 0 l) (fun s=>s.2.length) ([],l) (by simp) ⟨rfl,rfl⟩ ?_;rintro ⟨p2,r2⟩ ⟨h2,h4⟩;simp only at h2 h4;have y3:l.length=p2.length+r2.length:=by rw [h2,zd]
  rcases r2 with _|⟨d,r2⟩
  ·simp only [zg] at y3;have y4:¬(p2.length:Int)<(l.length:Int):=by omega
   unfold sj;simp only [dn] at h4
   repeat' (first
    |with_reducible (first|refine wp_seq ?_|refine aU ?_|refine wp_skip ?_|refine wp_exit ?_|refine wp_ret ?_|refine aQ ?_|refine aR ?_|refine aP ?_|refine aC ?_|refine aD ?_|refine aB ?_|refine aM ?_|refine aL ?_|refine aO ?_|refine aK ?_|refine aJ ?_|refine aG ?_|refine aF ?_|refine aI ?_|refine aH ?_)
    |(with_reducible refine aV fun K hK=>?_
      simp[y4]
      repeat' (with_reducible first|refine hK _ ?_|(refine aw ?_ ?_<;>(intro hc;(try rw [za] at hc);first|(exfalso;omega)|(try simp [hc,y4]))))
      all_goals (clear hK;clear K))
    |(with_reducible refine aW ?_
      refine ⟨_,rfl,?_,?_⟩<;>(intro hc;(try simp at hc);(all_goals first|(exfalso;omega)|skip))))
   all_goals first|(simp [r_,eF,ff,←h4];done)|(exfalso;omega)|skip
  ·simp only [zb] at y3;have hd:=hs d (by rw [h2];simp);simp only [ak.sm,dw.sm] at hd;have bM:l[p2.length]?=some d:=by rw [h2];simp
   obtain ⟨ae,cp⟩:=zf.1 bM;have y4:(p2.length:Int)<(l.length:Int):=by omega
   have hw:IntKind.wrap .i64 ((p2.length:Int)+1)=(p2.length:Int)+1:=wrap_i64 (by omega) (by omega);unfold sj;by_cases o:d.Kind=0
   ·have h5:dn 0 l=some p2.length:=by rw [←h4];simp [dn,o]
    repeat' (first
     |with_reducible (first|refine wp_seq ?_|refine aU ?_|refine wp_skip ?_|refine wp_exit ?_|refine wp_ret ?_|refine aQ ?_|refine aR ?_|refine aP ?_|refine aC ?_|refine aD ?_|refine aB ?_|refine aM ?_|refine aL ?_|refine aO ?_|refine aK ?_|refine aJ ?_|refine aG ?_|refine aF ?_|refine aI ?_|refine aH ?_)
     |(with_reducible refine aV fun K hK=>?_
       simp[bM,cp,ae,y4,hw,h,hs,o]
       repeat' (with_reducible first|refine hK _ ?_|(refine aw ?_ ?_<;>(intro hc;(try rw [za] at hc);first|(exfalso;omega)|(try simp [hc,bM,cp,ae,y4,hw,h,hs,o]))))
       all_goals (clear hK;clear K))
     |(with_reducible refine aW ?_
       refine ⟨_,rfl,?_,?_⟩<;>(intro hc;(try simp at hc);(all_goals first|(exfalso;omega)|skip))))
    all_goals first|(simp [r_,eF,ff,lz,h5,bM,cp,ae];done)|(exfalso;omega)|skip
   ·have h5:dn (p2.length+1) r2=dn 0 l:=by rw [←h4];simp [dn,o]
    repeat' (first
     |with_reducible (first|refine wp_seq ?_|refine aU ?_|refine wp_skip ?_|refine wp_exit ?_|refine wp_ret ?_|refine aQ ?_|refine aR ?_|refine aP ?_|refine aC ?_|refine aD ?_|refine aB ?_|refine aM ?_|refine aL ?_|refine aO ?_|refine aK ?_|refine aJ ?_|refine aG ?_|refine aF ?_|refine aI ?_|refine aH ?_)
     |(with_reducible refine aV fun K hK=>?_
       simp[bM,cp,ae,y4,hw,h,hs,o]
       repeat' (with_reducible first|refine hK _ ?_|(refine aw ?_ ?_<;>(intro hc;(try rw [za] at hc);first|(exfalso;omega)|(try simp [hc,bM,cp,ae,y4,hw,h,hs,o]))))
       all_goals (clear hK;clear K))
     |(with_reducible refine aW ?_
       refine ⟨_,rfl,?_,?_⟩<;>(intro hc;(try simp at hc);(all_goals first|(exfalso;omega)|skip))))
    all_goals first|exact ⟨(p2++[d],r2),by simp,⟨by rw [h2];simp,by simpa using h5⟩,by simp⟩|(exfalso;omega)|skip
 ·skip
  repeat' (first
   |with_reducible (first|refine wp_seq ?_|refine aU ?_|refine wp_skip ?_|refine wp_exit ?_|refine wp_ret ?_|refine aQ ?_|refine aR ?_|refine aP ?_|refine aC ?_|refine aD ?_|refine aB ?_|refine aM ?_|refine aL ?_|refine aO ?_|refine aK ?_|refine aJ ?_|refine aG ?_|refine aF ?_|refine aI ?_|refine aH ?_)
   |(with_reducible refine aV fun K hK=>?_
     simp[h,hs]
     repeat' (with_reducible first|refine hK _ ?_|(refine aw ?_ ?_<;>(intro hc;(try rw [za] at hc);first|(exfalso;omega)|(try simp [hc,h,hs]))))
     all_goals (clear hK;clear K))
   |(with_reducible refine aW ?_
     refine ⟨_,rfl,?_,?_⟩<;>(intro hc;(try simp at hc);(all_goals first|(exfalso;omega)|skip))))
  refine ba (σ:=List ak×List ak) (fun s=>[(1,AV.v false (di kind),none),(2,AV.v false (di slots),none),(8,AV.pl 8 0 [],some (Rt.an [C.own (D.sl 5 ((l).map ak.e))])),(13,AV.pl 8 0 [],none),(14,AV.v false (di (l.length:Nat)),none),(15,AV.v false (di ((s.1.length:Nat):Int)),none)]) (fun s=>l=s.1++s.2) (fun s=>s.2.length) ([],l) (by simp) rfl ?_;rintro ⟨p2,r2⟩ h2;simp only at h2;have y3:l.length=p2.length+r2.length:=by rw [h2,zd]
  rcases r2 with _|⟨d,r2⟩
  ·simp only [zg] at y3;have y4:¬(p2.length:Int)<(l.length:Int):=by omega
   unfold sj
   repeat' (first
    |with_reducible (first|refine wp_seq ?_|refine aU ?_|refine wp_skip ?_|refine wp_exit ?_|refine wp_ret ?_|refine aQ ?_|refine aR ?_|refine aP ?_|refine aC ?_|refine aD ?_|refine aB ?_|refine aM ?_|refine aL ?_|refine aO ?_|refine aK ?_|refine aJ ?_|refine aG ?_|refine aF ?_|refine aI ?_|refine aH ?_)
    |(with_reducible refine aV fun K hK=>?_
      simp[y4,b1,b2]
      repeat' (with_reducible first|refine hK _ ?_|(refine aw ?_ ?_<;>(intro hc;(try rw [za] at hc);first|(exfalso;omega)|(try simp [hc,y4,b1,b2]))))
      all_goals (clear hK;clear K))
    |(with_reducible refine aW ?_
      refine ⟨_,rfl,?_,?_⟩<;>(intro hc;(try simp at hc);(all_goals first|(exfalso;omega)|skip))))
   all_goals first|(simp [r_,eF,ff,b1,b2];done)|(exfalso;omega)|skip
  ·simp only [zb] at y3;have hd:=hs d (by rw [h2];simp);simp only [ak.sm,dw.sm] at hd;have bM:l[p2.length]?=some d:=by rw [h2];simp
   obtain ⟨ae,cp⟩:=zf.1 bM;have y4:(p2.length:Int)<(l.length:Int):=by omega
   have hw:IntKind.wrap .i64 ((p2.length:Int)+1)=(p2.length:Int)+1:=wrap_i64 (by omega) (by omega);unfold sj;by_cases o:d.Kind=0
   ·repeat' (first
     |with_reducible (first|refine wp_seq ?_|refine aU ?_|refine wp_skip ?_|refine wp_exit ?_|refine wp_ret ?_|refine aQ ?_|refine aR ?_|refine aP ?_|refine aC ?_|refine aD ?_|refine aB ?_|refine aM ?_|refine aL ?_|refine aO ?_|refine aK ?_|refine aJ ?_|refine aG ?_|refine aF ?_|refine aI ?_|refine aH ?_)
     |(with_reducible refine aV fun K hK=>?_
       simp[bM,cp,ae,y4,hw,h,hs,o,b1,b2]
       repeat' (with_reducible first|refine hK _ ?_|(refine aw ?_ ?_<;>(intro hc;(try rw [za] at hc);first|(exfalso;omega)|(try simp [hc,bM,cp,ae,y4,hw,h,hs,o,b1,b2]))))
       all_goals (clear hK;clear K))
     |(with_reducible refine aW ?_
       refine ⟨_,rfl,?_,?_⟩<;>(intro hc;(try simp at hc);(all_goals first|(exfalso;omega)|skip))))
    all_goals first|exact ⟨(p2++[d],r2),by simp,(by rw [h2];simp),by simp⟩|(exfalso;omega)|skip
   ·repeat' (first
     |with_reducible (first|refine wp_seq ?_|refine aU ?_|refine wp_skip ?_|refine wp_exit ?_|refine wp_ret ?_|refine aQ ?_|refine aR ?_|refine aP ?_|refine aC ?_|refine aD ?_|refine aB ?_|refine aM ?_|refine aL ?_|refine aO ?_|refine aK ?_|refine aJ ?_|refine aG ?_|refine aF ?_|refine aI ?_|refine aH ?_)
     |(with_reducible refine aV fun K hK=>?_
       simp[bM,cp,ae,y4,hw,h,hs,o,b1,b2]
       repeat' (with_reducible first|refine hK _ ?_|(refine aw ?_ ?_<;>(intro hc;(try rw [za] at hc);first|(exfalso;omega)|(try simp [hc,bM,cp,ae,y4,hw,h,hs,o,b1,b2]))))
       all_goals (clear hK;clear K))
     |(with_reducible refine aW ?_
       refine ⟨_,rfl,?_,?_⟩<;>(intro hc;(try simp at hc);(all_goals first|(exfalso;omega)|skip))))
    all_goals first|exact ⟨(p2++[d],r2),by simp,(by rw [h2];simp),by simp⟩|(exfalso;omega)|skip
@[simp] theorem t338 (l:List ak) (kind slots:Int) (h:l.length≤1048576) (hs:ak.aq l):Gw TT 338 [.one (.ro k0 (.sl 5 (l.map ak.e))),vi kind,vi slots]=some (.a_ [.one (.own (.sl 5 ((eF kind slots l).map ak.e))),vi (ff kind l)],[]):=by
 refine dD (F:=rQ) rfl rfl ?_;show Wp _ EB _ _;unfold EB;by_cases b1:kind=1
 ·subst b1
  repeat' (first
   |with_reducible (first|refine wp_seq ?_|refine aU ?_|refine wp_skip ?_|refine wp_exit ?_|refine wp_ret ?_|refine aQ ?_|refine aR ?_|refine aP ?_|refine aC ?_|refine aD ?_|refine aB ?_|refine aM ?_|refine aL ?_|refine aO ?_|refine aK ?_|refine aJ ?_|refine aG ?_|refine aF ?_|refine aI ?_|refine aH ?_)
   |(with_reducible refine aV fun K hK=>?_
     simp[h,hs]
     repeat' (with_reducible first|refine hK _ ?_|(refine aw ?_ ?_<;>(intro hc;(try rw [za] at hc);first|(exfalso;omega)|(try simp [hc,h,hs]))))
     all_goals (clear hK;clear K))
   |(with_reducible refine aW ?_
     refine ⟨_,rfl,?_,?_⟩<;>(intro hc;(try simp at hc);(all_goals first|(exfalso;omega)|skip))))
  refine ba (σ:=List ak×List ak) (fun s=>[(0,AV.v k0 (D.sl 5 (l.map ak.e)),none),(1,AV.v false (di 1),none),(2,AV.v false (di slots),none),(8,AV.pl 8 0 [],some (Rt.an [C.own (D.sl 5 ((l).map ak.e))])),(9,AV.v false (di ((s.1.length:Nat):Int)),none)]) (fun s=>l=s.1++s.2∧dn s.1.length s.2=dn 0 l) (fun s=>s.2.length) ([],l) (by simp) ⟨rfl,rfl⟩ ?_;rintro ⟨p2,r2⟩ ⟨h2,h4⟩;simp only at h2 h4;have y3:l.length=p2.length+r2.length:=by rw [h2,zd]
  rcases r2 with _|⟨d,r2⟩
  ·simp only [zg] at y3;have y4:¬(p2.length:Int)<(l.length:Int):=by omega
   unfold se;simp only [dn] at h4
   repeat' (first
    |with_reducible (first|refine wp_seq ?_|refine aU ?_|refine wp_skip ?_|refine wp_exit ?_|refine wp_ret ?_|refine aQ ?_|refine aR ?_|refine aP ?_|refine aC ?_|refine aD ?_|refine aB ?_|refine aM ?_|refine aL ?_|refine aO ?_|refine aK ?_|refine aJ ?_|refine aG ?_|refine aF ?_|refine aI ?_|refine aH ?_)
    |(with_reducible refine aV fun K hK=>?_
      simp[y4]
      repeat' (with_reducible first|refine hK _ ?_|(refine aw ?_ ?_<;>(intro hc;(try rw [za] at hc);first|(exfalso;omega)|(try simp [hc,y4]))))
      all_goals (clear hK;clear K))
    |(with_reducible refine aW ?_
      refine ⟨_,rfl,?_,?_⟩<;>(intro hc;(try simp at hc);(all_goals first|(exfalso;omega)|skip))))
   all_goals first|(simp [rQ,eF,ff,←h4];done)|(exfalso;omega)|skip
  ·simp only [zb] at y3;have hd:=hs d (by rw [h2];simp);simp only [ak.sm,dw.sm] at hd;have bM:l[p2.length]?=some d:=by rw [h2];simp
   obtain ⟨ae,cp⟩:=zf.1 bM;have y4:(p2.length:Int)<(l.length:Int):=by omega
   have hw:IntKind.wrap .i64 ((p2.length:Int)+1)=(p2.length:Int)+1:=wrap_i64 (by omega) (by omega);unfold se;by_cases o:d.Kind=0
   ·have h5:dn 0 l=some p2.length:=by rw [←h4];simp [dn,o]
    repeat' (first
     |with_reducible (first|refine wp_seq ?_|refine aU ?_|refine wp_skip ?_|refine wp_exit ?_|refine wp_ret ?_|refine aQ ?_|refine aR ?_|refine aP ?_|refine aC ?_|refine aD ?_|refine aB ?_|refine aM ?_|refine aL ?_|refine aO ?_|refine aK ?_|refine aJ ?_|refine aG ?_|refine aF ?_|refine aI ?_|refine aH ?_)
     |(with_reducible refine aV fun K hK=>?_
       simp[bM,cp,ae,y4,hw,h,hs,o]
       repeat' (with_reducible first|refine hK _ ?_|(refine aw ?_ ?_<;>(intro hc;(try rw [za] at hc);first|(exfalso;omega)|(try simp [hc,bM,cp,ae,y4,hw,h,hs,o]))))
       all_goals (clear hK;clear K))
     |(with_reducible refine aW ?_
       refine ⟨_,rfl,?_,?_⟩<;>(intro hc;(try simp at hc);(all_goals first|(exfalso;omega)|skip))))
    all_goals first|(simp [rQ,eF,ff,lz,h5,bM,cp,ae];done)|(exfalso;omega)|skip
   ·have h5:dn (p2.length+1) r2=dn 0 l:=by rw [←h4];simp [dn,o]
    repeat' (first
     |with_reducible (first|refine wp_seq ?_|refine aU ?_|refine wp_skip ?_|refine wp_exit ?_|refine wp_ret ?_|refine aQ ?_|refine aR ?_|refine aP ?_|refine aC ?_|refine aD ?_|refine aB ?_|refine aM ?_|refine aL ?_|refine aO ?_|refine aK ?_|refine aJ ?_|refine aG ?_|refine aF ?_|refine aI ?_|refine aH ?_)
     |(with_reducible refine aV fun K hK=>?_
       simp[bM,cp,ae,y4,hw,h,hs,o]
       repeat' (with_reducible first|refine hK _ ?_|(refine aw ?_ ?_<;>(intro hc;(try rw [za] at hc);first|(exfalso;omega)|(try simp [hc,bM,cp,ae,y4,hw,h,hs,o]))))
       all_goals (clear hK;clear K))
     |(with_reducible refine aW ?_
       refine ⟨_,rfl,?_,?_⟩<;>(intro hc;(try simp at hc);(all_goals first|(exfalso;omega)|skip))))
    all_goals first|exact ⟨(p2++[d],r2),by simp,⟨by rw [h2];simp,by simpa using h5⟩,by simp⟩|(exfalso;omega)|skip
 by_cases b2:kind=2
 ·subst b2
  repeat' (first
   |with_reducible (first|refine wp_seq ?_|refine aU ?_|refine wp_skip ?_|refine wp_exit ?_|refine wp_ret ?_|refine aQ ?_|refine aR ?_|refine aP ?_|refine aC ?_|refine aD ?_|refine aB ?_|refine aM ?_|refine aL ?_|refine aO ?_|refine aK ?_|refine aJ ?_|refine aG ?_|refine aF ?_|refine aI ?_|refine aH ?_)
   |(with_reducible refine aV fun K hK=>?_
     simp[h,hs]
     repeat' (with_reducible first|refine hK _ ?_|(refine aw ?_ ?_<;>(intro hc;(try rw [za] at hc);first|(exfalso;omega)|(try simp [hc,h,hs]))))
     all_goals (clear hK;clear K))
   |(with_reducible refine aW ?_
     refine ⟨_,rfl,?_,?_⟩<;>(intro hc;(try simp at hc);(all_goals first|(exfalso;omega)|skip))))
  refine ba (σ:=List ak×List ak) (fun s=>[(0,AV.v k0 (D.sl 5 (l.map ak.e)),none),(1,AV.v false (di 2),none),(2,AV.v false (di slots),none),(8,AV.pl 8 0 [],some (Rt.an [C.own (D.sl 5 ((l).map ak.e))])),(9,AV.v false (di ((s.1.length:Nat):Int)),none)]) (fun s=>l=s.1++s.2∧dn s.1.length s.2=dn 0 l) (fun s=>s.2.length) ([],l) (by simp) ⟨rfl,rfl⟩ ?_;rintro ⟨p2,r2⟩ ⟨h2,h4⟩;simp only at h2 h4;have y3:l.length=p2.length+r2.length:=by rw [h2,zd]
  rcases r2 with _|⟨d,r2⟩
  ·simp only [zg] at y3;have y4:¬(p2.length:Int)<(l.length:Int):=by omega
   unfold se;simp only [dn] at h4
   repeat' (first
    |with_reducible (first|refine wp_seq ?_|refine aU ?_|refine wp_skip ?_|refine wp_exit ?_|refine wp_ret ?_|refine aQ ?_|refine aR ?_|refine aP ?_|refine aC ?_|refine aD ?_|refine aB ?_|refine aM ?_|refine aL ?_|refine aO ?_|refine aK ?_|refine aJ ?_|refine aG ?_|refine aF ?_|refine aI ?_|refine aH ?_)
    |(with_reducible refine aV fun K hK=>?_
      simp[y4]
      repeat' (with_reducible first|refine hK _ ?_|(refine aw ?_ ?_<;>(intro hc;(try rw [za] at hc);first|(exfalso;omega)|(try simp [hc,y4]))))
      all_goals (clear hK;clear K))
    |(with_reducible refine aW ?_
      refine ⟨_,rfl,?_,?_⟩<;>(intro hc;(try simp at hc);(all_goals first|(exfalso;omega)|skip))))
   all_goals first|(simp [rQ,eF,ff,←h4];done)|(exfalso;omega)|skip
  ·simp only [zb] at y3;have hd:=hs d (by rw [h2];simp);simp only [ak.sm,dw.sm] at hd;have bM:l[p2.length]?=some d:=by rw [h2];simp
   obtain ⟨ae,cp⟩:=zf.1 bM;have y4:(p2.length:Int)<(l.length:Int):=by omega
   have hw:IntKind.wrap .i64 ((p2.length:Int)+1)=(p2.length:Int)+1:=wrap_i64 (by omega) (by omega);unfold se;by_cases o:d.Kind=0
   ·have h5:dn 0 l=some p2.length:=by rw [←h4];simp [dn,o]
    repeat' (first
     |with_reducible (first|refine wp_seq ?_|refine aU ?_|refine wp_skip ?_|refine wp_exit ?_|refine wp_ret ?_|refine aQ ?_|refine aR ?_|refine aP ?_|refine aC ?_|refine aD ?_|refine aB ?_|refine aM ?_|refine aL ?_|refine aO ?_|refine aK ?_|refine aJ ?_|refine aG ?_|refine aF ?_|refine aI ?_|refine aH ?_)
     |(with_reducible refine aV fun K hK=>?_
       simp[bM,cp,ae,y4,hw,h,hs,o]
       repeat' (with_reducible first|refine hK _ ?_|(refine aw ?_ ?_<;>(intro hc;(try rw [za] at hc);first|(exfalso;omega)|(try simp [hc,bM,cp,ae,y4,hw,h,hs,o]))))
       all_goals (clear hK;clear K))
     |(with_reducible refine aW ?_
       refine ⟨_,rfl,?_,?_⟩<;>(intro hc;(try simp at hc);(all_goals first|(exfalso;omega)|skip))))
    all_goals first|(simp [rQ,eF,ff,lz,h5,bM,cp,ae];done)|(exfalso;omega)|skip
   ·have h5:dn (p2.length+1) r2=dn 0 l:=by rw [←h4];simp [dn,o]
    repeat' (first
     |with_reducible (first|refine wp_seq ?_|refine aU ?_|refine wp_skip ?_|refine wp_exit ?_|refine wp_ret ?_|refine aQ ?_|refine aR ?_|refine aP ?_|refine aC ?_|refine aD ?_|refine aB ?_|refine aM ?_|refine aL ?_|refine aO ?_|refine aK ?_|refine aJ ?_|refine aG ?_|refine aF ?_|refine aI ?_|refine aH ?_)
     |(with_reducible refine aV fun K hK=>?_
       simp[bM,cp,ae,y4,hw,h,hs,o]
       repeat' (with_reducible first|refine hK _ ?_|(refine aw ?_ ?_<;>(intro hc;(try rw [za] at hc);first|(exfalso;omega)|(try simp [hc,bM,cp,ae,y4,hw,h,hs,o]))))
       all_goals (clear hK;clear K))
     |(with_reducible refine aW ?_
       refine ⟨_,rfl,?_,?_⟩<;>(intro hc;(try simp at hc);(all_goals first|(exfalso;omega)|skip))))
    all_goals first|exact ⟨(p2++[d],r2),by simp,⟨by rw [h2];simp,by simpa using h5⟩,by simp⟩|(exfalso;omega)|skip
 ·skip
  repeat' (first
   |with_reducible (first|refine wp_seq ?_|refine aU ?_|refine wp_skip ?_|refine wp_exit ?_|refine wp_ret ?_|refine aQ ?_|refine aR ?_|refine aP ?_|refine aC ?_|refine aD ?_|refine aB ?_|refine aM ?_|refine aL ?_|refine aO ?_|refine aK ?_|refine aJ ?_|refine aG ?_|refine aF ?_|refine aI ?_|refine aH ?_)
   |(with_reducible refine wp_loop (c:=se) ?_
     conv=>arg 2;unfold se)
   |(with_reducible refine aV fun K hK=>?_
     simp[h,hs]
     repeat' (with_reducible first|refine hK _ ?_|(refine aw ?_ ?_<;>(intro hc;(try rw [za] at hc);first|(exfalso;omega)|(try simp [hc,h,hs]))))
     all_goals (clear hK;clear K))
   |(with_reducible refine aW ?_
     refine ⟨_,rfl,?_,?_⟩<;>(intro hc;(try simp at hc);(all_goals first|(exfalso;omega)|skip))))
  all_goals first|(simp [rQ,eF,ff,b1,b2];done)|(exfalso;omega)|skip
def slt (ky:Int→Int) (x y:Int):Prop:=ky x<ky y∨(ky x=ky y∧x<y)
def BE (ky:Int→Int) (l:List Int):Prop:=l.Pairwise (slt ky)
theorem slt.trans {ky:Int→Int} {x y z:Int} (h1:slt ky x y) (h2:slt ky y z):slt ky x z:=by unfold slt at *;omega
theorem slt.irrefl {ky:Int→Int} {x:Int}:¬slt ky x x:=by unfold slt;omega
theorem slt.asymm {ky:Int→Int} {x y:Int} (h:slt ky x y):¬slt ky y x:=by unfold slt at *;omega
theorem slt.le {ky:Int→Int} {x y:Int} (h:slt ky x y):ky x≤ky y:=by unfold slt at h;omega
theorem aci {ky:Int→Int} {x y:Int} (h:ky x<ky y):slt ky x y:=.inl h
theorem ach {ky:Int→Int} {x y:Int} (h:ky x≤ky y) (h2:x<y):slt ky x y:=by unfold slt;omega
inductive Good (ky:Int→Int) (bs:Nat):List Int→List Int→Prop
 |short (xs l:List Int):xs.length≤bs→l.Perm xs→BE ky l→Good ky bs xs l
 |app (w w' xs l:List Int):w.length=bs→w'.Perm w→BE ky w'→Good ky bs xs l→Good ky bs (w++xs) (w'++l)
theorem Good.perm {ky:Int→Int} {bs:Nat} {xs l:List Int} (h:Good ky bs xs l):l.Perm xs:=by
 induction h with
 |short _ _ _ h=>exact h
 |app _ _ _ _ _ h _ _ ih=>exact h.append ih
theorem Good.le {ky:Int→Int} {bs:Nat} {xs l:List Int} (h:Good ky bs xs l) (hb:xs.length≤bs) (h0:0<bs):l.Perm xs∧BE ky l:=by
 cases h with
 |short _ _ h1 h2 h3=>exact ⟨h2,h3⟩
 |app w w' xs l h1 h2 h3 h4=>
  have h5:xs=[]:=List.eq_nil_of_length_eq_zero (by simp at hb;omega);subst h5;have h6:l=[]:=List.perm_nil.1 h4.perm;subst h6;simpa using ⟨h2,h3⟩
def i_ (x:Nat):List Int:=if h:x<128 then [(x:Int)] else ((x%128+128:Nat):Int)::i_ (x/128)
termination_by x
decreasing_by omega
def cL:Bool→Nat→List Int→Option (Nat×Nat)
 |_,0,_=>none
 |_,_+1,[]=>none
 |fst,f+1,c::r=>
  if 128≤c then match cL false f r with
   |some (y,k)=>some ((c%128).toNat+128*y,k+1)
   |none=>none
  else if fst=false∧c=0 then none else some (c.toNat,1)
def aZ (l:List Int):Prop:=∀c∈l,0≤c∧c≤255
theorem sB {x:Nat} (h:x<128):i_ x=[(x:Int)]:=by rw [i_];simp [h]
theorem sA {x:Nat} (h:¬x<128):i_ x=((x%128+128:Nat):Int)::i_ (x/128):=by rw [i_];simp [h]
theorem aao:∀x:Nat,aZ (i_ x):=by
 intro x;induction x using Nat.strongRecOn with
 |_ x ih=>
  by_cases h:x<128
  ·rw [sB h];intro c hc;simp at hc;omega
  ·rw [sA h];intro c hc;rcases zA.1 hc with rfl|hc
   ·omega
   ·exact ih (x/128) (by omega) c hc
theorem Br:1≤(i_ x).length:=by
 by_cases h:x<128
 ·rw [sB h];simp
 ·rw [sA h];simp
theorem aan:∀(n x:Nat),x<128^n→0<n→(i_ x).length≤n:=by
 intro n;induction n with
 |zero=>intro x _ h;omega
 |succ n ih=>
  intro x h _;by_cases hx:x<128
  ·rw [sB hx];simp
  ·rw [sA hx]
   have hn:0<n:=by
    rcases Nat.eq_zero_or_pos n with h0|h0
    ·subst h0;simp at h;omega
    ·exact h0
   have:=ih (x/128) (by rw [zr] at h;omega) hn;simp only [zb];omega
theorem Vp {f:Nat}:∀{l:List Int} {y k:Nat},aZ l→cL false f l=some (y,k)→0<y:=by
 induction f with
 |zero=>intro l y k _ h;simp [cL] at h
 |succ f ih=>
  intro l y k hl h;cases l with
  |nil=>simp [cL] at h
  |cons c r=>
   simp only [cL] at h;split at h
   ·split at h
    ·rename_i y' k' h1;simp at h;have:=ih (fun c hc=>hl c (by simp [hc])) h1;omega
    ·cases h
   ·rename_i hc;have dF:=hl c (by simp);split at h
    ·cases h
    ·rename_i h2;simp at h;simp at h2;omega
theorem Vo:∀{f:Nat} {l:List Int} {fst:Bool} {y k:Nat},aZ l→cL fst f l=some (y,k)→∃r,l=i_ y++r∧(i_ y).length=k:=by
 intro f;induction f with
 |zero=>intro l fst y k _ h;simp [cL] at h
 |succ f ih=>
  intro l fst y k hl h;cases l with
  |nil=>simp [cL] at h
  |cons c r=>
   have dF:=hl c (by simp);simp only [cL] at h;split at h
   ·rename_i hc;split at h
    ·rename_i y' k' h1;simp at h;obtain ⟨rfl,rfl⟩:=h;have hr:aZ r:=fun c hc=>hl c (by simp [hc])
     have hp:=Vp hr h1;obtain ⟨r',h2,h3⟩:=ih hr h1;have hb:¬((c%128).toNat+128*y'<128):=by omega
     rw [sA hb,show ((c%128).toNat+128*y')/128=y' by omega];refine ⟨r',?_,by simp [h3]⟩;rw [h2,zQ];congr 1;omega
    ·cases h
   ·split at h
    ·cases h
    ·simp at h;obtain ⟨rfl,rfl⟩:=h;rw [sB (by omega)];exact ⟨r,by simp;omega,rfl⟩
theorem Vq:∀(f y:Nat) (fst:Bool) (r:List Int),y<128^f→(fst=false→0<y)→cL fst f (i_ y++r)=if f=0 then none else some (y,(i_ y).length):=by
 intro f;induction f with
 |zero=>intro y fst r _ _;simp [cL]
 |succ f ih=>
  intro y fst r h hf;by_cases hy:y<128
  ·rw [sB hy];simp only [zQ,List.nil_append,cL];rw [if_neg (by omega),if_neg (fun e=>by have:=hf e.1;omega)];simp
  ·rw [sA hy];simp only [zQ,cL];rw [if_pos (by omega),ih (y/128) false r (by rw [zr] at h;omega) (fun _=>by omega)];have sY:f≠0:=fun e=>by subst e;simp at h;omega
   simp only [if_neg sY,zb,Nat.add_eq_zero_iff,if_neg (show ¬(f=0∧(1:Nat)=0) by omega)];simp only [zC,zN,and_true,reduceCtorEq];simp;omega
def jP (n:Int):Int:=if -1000000000≤n∧n≤1000000000 then (if n<0 then -2*n-1 else 2*n) else 0
def iu (n:Int):Int:=if 0≤n∧n≤2000000000 then (if n.tmod 2=1 then (-(n+1)).tdiv 2 else n.tdiv 2) else 0
theorem O2 {x:Int} (h:0≤x∧x≤2000000000) (h2:x%2=0):iu x=x/2:=by
 unfold iu;rw [if_pos h,zk h.1,if_neg (by omega),zh h.1]
theorem O3 {x:Int} (h:0≤x∧x≤2000000000) (h2:x%2=1):iu x=-((x+1)/2):=by
 unfold iu;rw [if_pos h,zk h.1,if_pos h2,z_,zh (by omega)]
theorem Bw {n:Int} (h:-1000000000≤n∧n≤1000000000):iu (jP n)=n∧0≤jP n∧jP n≤2000000000:=by
 unfold jP;rw [if_pos h];by_cases h0:n<0
 ·rw [if_pos h0,O3 (by omega) (by omega)];omega
 ·rw [if_neg h0,O2 (by omega) (by omega)];omega
theorem aaB {x:Int} (h:0≤x∧x≤2000000000):jP (iu x)=x∧-1000000000≤iu x∧iu x≤1000000000:=by
 rcases (by omega:x%2=0∨x%2=1) with h0|h0
 ·rw [O2 h h0];unfold jP;rw [if_pos (by omega),if_neg (by omega)];omega
 ·rw [O3 h h0];unfold jP;rw [if_pos (by omega),if_pos (by omega)];omega
def bw (n:Int):List Int:=if -1000000000≤n∧n≤1000000000 then i_ (jP n).toNat else []
def qY (l:List Int):Option (Int×Nat):=match cL true 5 l with
 |some (y,k)=>if y≤2000000000 then some (iu y,k) else none
 |none=>none
theorem pR:aZ (bw n):=by
 unfold bw;split
 ·exact aao _
 ·intro c hc;simp at hc
theorem fP:(bw n).length≤5:=by
 unfold bw;split
 ·rename_i h;have:=Bw h;exact aan 5 _ (by omega) (by omega)
 ·simp
theorem QD {l:List Int} {n:Int} {k:Nat} (hl:aZ l) (h:qY l=some (n,k)):(-1000000000≤n∧n≤1000000000)∧∃r,l=bw n++r∧(bw n).length=k:=by
 unfold qY at h;split at h
 ·rename_i y k' h1;split at h
  ·rename_i hy;simp at h;obtain ⟨rfl,rfl⟩:=h;have hz:=aaB (x:=(y:Int)) (by omega);obtain ⟨r,h2,h3⟩:=Vo hl h1;refine ⟨hz.2,r,?_⟩;unfold bw;rw [if_pos hz.2,hz.1];simpa using ⟨h2,h3⟩
  ·cases h
 ·cases h
theorem QE {n:Int} (h:-1000000000≤n∧n≤1000000000) (r:List Int):qY (bw n++r)=some (n,(bw n).length):=by
 have hz:=Bw h;unfold qY bw;rw [if_pos h,Vq 5 _ true r (by omega) (by simp)];simp only [if_neg (show ¬(5:Nat)=0 by omega)];rw [if_pos (by omega)];simp only [zC,zN,and_true];rw [zW hz.2.1];exact hz.1
@[simp] theorem ado:Gw TT 562 [vi n]=some (vi (jP n),[]):=by
 refine Ga wh Gm ?_;unfold Gm;by_cases q1:fB n=true
 ·have q2:=q1;simp only [fB,zm,decide_eq_true_eq] at q2;have w1:=Wi (-2*n);have w2:=Wi (-2*n-1);have w3:=Wi (2*n);refine Uw (J4 q1 w1 w2 w3) ?_ ?_;all_goals repeat intro hc
  all_goals first|(simp [wh,jP,q2, *];done)|(simp [wh,jP];omega)
 ·have q2:=q1;simp only [fB,zm,decide_eq_true_eq] at q2;simp only [zG] at q1;refine Uw q1 ?_;repeat intro hc
  simp [wh,jP,q2]
@[simp] theorem adI:Gw TT 590 [vi n]=some (vi (jP n),[]):=by
 refine Ga wk GR ?_;unfold GR;by_cases q1:fB n=true
 ·have q2:=q1;simp only [fB,zm,decide_eq_true_eq] at q2;have w1:=Wi (-2*n);have w2:=Wi (-2*n-1);have w3:=Wi (2*n);refine Uw (J4 q1 w1 w2 w3) ?_ ?_;all_goals repeat intro hc
  all_goals first|(simp [wk,jP,q2, *];done)|(simp [wk,jP];omega)
 ·have q2:=q1;simp only [fB,zm,decide_eq_true_eq] at q2;simp only [zG] at q1;refine Uw q1 ?_;repeat intro hc
  simp [wk,jP,q2]
@[simp] theorem ac1:Gw TT 521 [vi n]=some (vi (iu n),[]):=by
 refine Ga v_ FL ?_;unfold FL;by_cases q2:0≤n∧n≤2000000000
 ·have w1:=Wi (n+1);have w2:=Wi (-(n+1));have w4:IntKind.wrap .i64 (0-(n+1))=-(n+1):=by rw [show (0-(n+1):Int)=-(n+1) by omega];exact w2
  have w5:IntKind.wrap .i64 (n.tdiv 2)=n.tdiv 2:=by rw [zh q2.1];exact wrap_i64 (by omega) (by omega)
  have w6:IntKind.wrap .i64 ((-(n+1)).tdiv 2)=(-(n+1)).tdiv 2:=by rw [z_,zh (by omega)];exact wrap_i64 (by omega) (by omega)
  refine Uw (J7 q2.1 q2.2 w1 w2 w4 w5 w6) ?_ ?_;all_goals repeat intro hc
  all_goals first|(simp [v_,iu,q2, *];done)|(simp_all [v_,iu];done)
 ·refine Uw Oo ?_;repeat intro hc
  simp [v_,iu,q2]
@[simp] theorem acY:Gw TT 513 [vi n]=some (vi (iu n),[]):=by
 refine Ga aay FC ?_;unfold FC;by_cases q2:0≤n∧n≤2000000000
 ·have w1:=Wi (n+1);have w2:=Wi (-(n+1));have w4:IntKind.wrap .i64 (0-(n+1))=-(n+1):=by rw [show (0-(n+1):Int)=-(n+1) by omega];exact w2
  have w5:IntKind.wrap .i64 (n.tdiv 2)=n.tdiv 2:=by rw [zh q2.1];exact wrap_i64 (by omega) (by omega)
  have w6:IntKind.wrap .i64 ((-(n+1)).tdiv 2)=(-(n+1)).tdiv 2:=by rw [z_,zh (by omega)];exact wrap_i64 (by omega) (by omega)
  refine Uw (J7 q2.1 q2.2 w1 w2 w4 w5 w6) ?_ ?_;all_goals repeat intro hc
  all_goals first|(simp [aay,iu,q2, *];done)|(simp_all [aay,iu];done)
 ·refine Uw Oo ?_;repeat intro hc
  simp [aay,iu,q2]
theorem xc:IntKind.wrap .i64 (((x:Int).tmod 128)+128)=((x%128+128:Nat):Int):=by
 rw [zk (by omega),wrap_i64 (by omega) (by omega)];omega
@[simp] theorem Jw (h:b.length≤1048576):Gw TT 531 [.one (.ro k0 (.sl 1 (b.map eb))),vi n]=some (.one (.own (.sl 1 ((b++bw n).map eb))),[]):=by
 refine Ga yN FV ?_;unfold FV;have ll:(0+b.length)*1≤70368744177664:=by omega
 have cv:b.length≤70368744177664:=by omega
 by_cases q1:fB n=true
 ·have q2:=q1;simp only [fB,zm,decide_eq_true_eq] at q2;obtain ⟨z1,z2,z3⟩:=Bw q2;obtain ⟨z,hz⟩:=zj z2;have qc:bw n=i_ z:=by simp [bw,q2,hz]
  have hlen:=fP n;refine Ua (J5 q1 h ll cv hz) ?_;refine ba (σ:=List Int×Nat) (fun s=>[(5,AV.pl 5 0 [],some (Rt.an [C.own (D.sl 1 ((s.1).map eb))])),(6,AV.v false (di (s.2:Nat)),none)]) (fun s=>s.1++i_ s.2=b++bw n∧s.2≤z) (fun s=>s.2) (b,z) (by simp) ⟨by rw [qc],zw _⟩ ?_;rintro ⟨a,x⟩ ⟨y1,y2⟩;simp only at y1 y2;have uN:=congrArg zF y1;simp only [zd] at uN;have hp:=Br x;have gZ:(a.length+1)*1≤70368744177664:=by omega
  have kL:a.length+1≤70368744177664:=by omega
  by_cases c1:x<128
  ·have c2:¬(128:Int)≤x:=by omega
   have c3:¬(127:Int)<x:=by omega
   have hu:IntKind.wrap .u8 (x:Int)=x:=wrap_u8 (by omega) (by omega);rw [sB c1] at y1;unfold Iv;refine Ua (J5 c2 c3 hu gZ kL) ?_;simp [yN,←y1]
  ·have c2:(128:Int)≤x:=by omega
   have c3:(127:Int)<x:=by omega
   have hu:IntKind.wrap .u8 ((x%128+128:Nat):Int)=((x%128+128:Nat):Int):=wrap_u8 (by omega) (by omega);have hv:IntKind.wrap .i64 ((x:Int).tdiv 128)=((x/128:Nat):Int):=by rw [zh (by omega),wrap_i64 (by omega) (by omega)];omega
   have hw:IntKind.wrap .i64 (128+(x:Int).tmod 128)=((x%128+128:Nat):Int):=by rw [Int.add_comm];exact xc x
   rw [sA c1] at y1;have ae:x/128<x:=by omega
   have ji:IntKind.wrap .u8 ((x:Int)%128+128)=(x:Int)%128+128:=wrap_u8 (by omega) (by omega);have eM:=Wi ((x:Int)/128);unfold Iv;refine Ua (J8 c2 c3 @xc hw hu hv gZ kL) ?_;exact ⟨(a++[((x%128+128:Nat):Int)],x/128),by simp [ji,eM],⟨by rw [Zb];exact y1,by omega⟩,ae⟩
 ·have q2:=q1;simp only [fB,zm,decide_eq_true_eq] at q2;simp only [zG] at q1;refine Ua (J4 q1 h ll cv) ?_;simp [yN,bw,q2]
@[simp] theorem OB (h:b.length≤1048576):Gw TT 566 [.one (.ro k0 (.sl 1 (b.map eb))),vi n]=some (.one (.own (.sl 1 ((b++bw n).map eb))),[]):=by
 refine Ga y7 Gr ?_;unfold Gr;have ll:(0+b.length)*1≤70368744177664:=by omega
 have cv:b.length≤70368744177664:=by omega
 by_cases q1:fB n=true
 ·have q2:=q1;simp only [fB,zm,decide_eq_true_eq] at q2;obtain ⟨z1,z2,z3⟩:=Bw q2;obtain ⟨z,hz⟩:=zj z2;have qc:bw n=i_ z:=by simp [bw,q2,hz]
  have hlen:=fP n;refine Ua (J5 q1 h ll cv hz) ?_;refine ba (σ:=List Int×Nat) (fun s=>[(5,AV.pl 5 0 [],some (Rt.an [C.own (D.sl 1 ((s.1).map eb))])),(6,AV.v false (di (s.2:Nat)),none)]) (fun s=>s.1++i_ s.2=b++bw n∧s.2≤z) (fun s=>s.2) (b,z) (by simp) ⟨by rw [qc],zw _⟩ ?_;rintro ⟨a,x⟩ ⟨y1,y2⟩;simp only at y1 y2;have uN:=congrArg zF y1;simp only [zd] at uN;have hp:=Br x;have gZ:(a.length+1)*1≤70368744177664:=by omega
  have kL:a.length+1≤70368744177664:=by omega
  by_cases c1:x<128
  ·have c2:¬(128:Int)≤x:=by omega
   have c3:¬(127:Int)<x:=by omega
   have hu:IntKind.wrap .u8 (x:Int)=x:=wrap_u8 (by omega) (by omega);rw [sB c1] at y1;unfold IN;refine Ua (J5 c2 c3 hu gZ kL) ?_;simp [y7,←y1]
  ·have c2:(128:Int)≤x:=by omega
   have c3:(127:Int)<x:=by omega
   have hu:IntKind.wrap .u8 ((x%128+128:Nat):Int)=((x%128+128:Nat):Int):=wrap_u8 (by omega) (by omega);have hv:IntKind.wrap .i64 ((x:Int).tdiv 128)=((x/128:Nat):Int):=by rw [zh (by omega),wrap_i64 (by omega) (by omega)];omega
   have hw:IntKind.wrap .i64 (128+(x:Int).tmod 128)=((x%128+128:Nat):Int):=by rw [Int.add_comm];exact xc x
   rw [sA c1] at y1;have ae:x/128<x:=by omega
   have ji:IntKind.wrap .u8 ((x:Int)%128+128)=(x:Int)%128+128:=wrap_u8 (by omega) (by omega);have eM:=Wi ((x:Int)/128);unfold IN;refine Ua (J8 c2 c3 @xc hw hu hv gZ kL) ?_;exact ⟨(a++[((x%128+128:Nat):Int)],x/128),by simp [ji,eM],⟨by rw [Zb];exact y1,by omega⟩,ae⟩
 ·have q2:=q1;simp only [fB,zm,decide_eq_true_eq] at q2;simp only [zG] at q1;refine Ua (J4 q1 h ll cv) ?_;simp [y7,bw,q2]
def gN (b:List Int) (u:Int):Option (Int×Int):=if 0≤u∧u<(b.length:Int) then (match qY (b.drop u.toNat) with
 |some (n,k)=>some (n,u+(k:Int))
 |none=>none) else none
def gV (r:Option (Int×Int)):V:=match r with
 |some (n,t)=>.a_ [vi n,vi t,vb true]
 |none=>.a_ [vi 0,vi 0,vb false]
@[simp] theorem abb (n t:Int):gV (some (n,t))=.a_ [vi n,vi t,vb true]:=rfl
@[simp] theorem aba:gV none=.a_ [vi 0,vi 0,vb false]:=rfl
def kS (i x:Nat) (r:Option (Nat×Nat)):Option (Nat×Nat):=match r with
 |some (y,k)=>some (x+128^i*y,i+k)
 |none=>none
def pV (r:Option (Nat×Nat)):Option (Int×Nat):=match r with
 |some (y,k)=>if y≤2000000000 then some (iu y,k) else none
 |none=>none
theorem Lj (l:List Int):qY l=pV (cL true 5 l):=by
 unfold qY pV;rfl
@[simp] theorem acU (h:b.length≤1048576) (hb:aZ b):Gw TT 495 [.one (.ro k0 (.sl 1 (b.map eb))),vi u]=some (gV (gN b u),[]):=by
 refine Ga nT Fv ?_;unfold Fv;by_cases q1:0≤u∧u<(b.length:Int)
 ·obtain ⟨m,rfl⟩:=zj q1.1;have q3:m<b.length:=by omega
  have q4:(m:Int)≤(b.length:Int):=by omega
  have q5:¬(b.length:Int)≤(m:Int):=by omega
  refine Ud (J3 q3 q4 q5) ?_;repeat intro hc
  refine ba (σ:=Nat×Nat) (fun s=>[(0,AV.v k0 (D.sl 1 (b.map eb)),none),(1,AV.v false (di (m:Nat)),none),(7,AV.v false (di (s.2:Nat)),none),(8,AV.v false (di (s.1:Nat)),none)]) (fun s=>s.1≤5∧s.2<128^s.1∧cL true 5 (b.drop m)=kS s.1 s.2 (cL (s.1==0) (5-s.1) (b.drop (m+s.1)))) (fun s=>5-s.1) (0,0) (by simp) ⟨by omega,by simp,by simp [kS];cases cL true 5 (b.drop m)<;>simp⟩ ?_;rintro ⟨i,x⟩ ⟨y1,y2,y3⟩;simp only at y1 y2 y3
  have cS:gN b (m:Int)=(match pV (cL true 5 (b.drop m)) with|some (n,k)=>some (n,(m:Int)+(k:Int))|none=>none):=by
   (simp [gN,q3,Lj];try rfl)
  by_cases e5:i=5
  ·subst e5;have nL:cL true 5 (b.drop m)=none:=by rw [y3];simp [cL,kS]
   have cT:gN b (m:Int)=none:=by rw [cS,nL];try rfl
   unfold nW;refine Ud cT ?_;simp [nT,cT]
  ·cases hr:b.drop (m+i) with
   |nil=>
    have cI:=congrArg zF hr;simp only [zH,zg] at cI
    have nL:cL true 5 (b.drop m)=none:=by
     rw [y3,hr];have:5-i=(4-i)+1:=by omega
     rw [this];simp [cL,kS]
    have cT:gN b (m:Int)=none:=by rw [cS,nL];try rfl
    have w1:IntKind.wrap .i64 ((m:Int)+(i:Int))=(m:Int)+(i:Int):=wrap_i64 (by omega) (by omega);have w2:IntKind.wrap .i64 ((b.length:Int)-(m:Int))=(b.length:Int)-(m:Int):=wrap_i64 (by omega) (by omega);have c1:¬(m:Int)+(i:Int)<(b.length:Int):=by omega
    have c2:¬(i:Int)<(b.length:Int)-(m:Int):=by omega
    unfold nW;refine Ud (J5 cT w1 w2 c1 c2) ?_;repeat intro hc
    simp [nT,cT]
   |cons c r=>
    have cI:=congrArg zF hr;simp only [zH,zb] at cI;have eZ:m+i<b.length:=by omega
    have cN:b[m+i]?=some c:=by
     have:=congrArg (fun l=>l[0]?) hr;simpa using this
    have fF:b[m+i]=c:=(zf.1 cN).2;have dF:=hb c (zu cN);obtain ⟨cn,rfl⟩:=zj dF.1
    have hdr:b.drop (m+(i+1))=r:=by
     rw [←zO,←Zg,hr];simp
    have u7:cL (i==0) (5-i) (b.drop (m+i))=cL (i==0) ((4-i)+1) ((cn:Int)::r):=by rw [hr,show 5-i=(4-i)+1 by omega]
    have w1:IntKind.wrap .i64 ((m:Int)+(i:Int))=(m:Int)+(i:Int):=wrap_i64 (by omega) (by omega);have w2:IntKind.wrap .i64 ((b.length:Int)-(m:Int))=(b.length:Int)-(m:Int):=wrap_i64 (by omega) (by omega);have w3:IntKind.wrap .i64 ((m:Int)+(i:Int)+1)=(m:Int)+(i:Int)+1:=wrap_i64 (by omega) (by omega);have w4:IntKind.wrap .i64 (cn:Int)=(cn:Int):=wrap_i64 (by omega) (by omega);have w5:IntKind.wrap .i64 ((i:Int)+1)=(i:Int)+1:=wrap_i64 (by omega) (by omega);have c1:(m:Int)+(i:Int)<(b.length:Int):=by omega
    have c2:(i:Int)<(b.length:Int)-(m:Int):=by omega
    have c3:(i:Int)<5:=by omega
    have c4:((m:Int)+(i:Int)).toNat=m+i:=by omega
    have c5:(0:Int)≤(m:Int)+(i:Int):=by omega
    have kK:(128:Nat)^i=2^(7*i):=by rw [Nat.pow_mul]
    have dX:(2:Nat)^(7*i)≤2^28:=zV (by omega) (by omega);have Sv:1≤(2:Nat)^(7*i):=Za (by simp);obtain ⟨t,ht⟩:∃t:Nat,t=cn%128*2^(7*i):=⟨_,rfl⟩;have vo:t≤127*2^28:=by rw [ht];exact zL (by omega) dX
    have x7:IntKind.wrap .i64 (7*(i:Int))=7*(i:Int):=wrap_i64 (by omega) (by omega);have x0:¬(7*(i:Int)<0):=by omega
    have x1:(7*(i:Int)).toNat=7*i:=by omega
    have x2:min (7*i) IntKind.i64.bits=7*i:=by simp [IntKind.bits];omega
    have xt:(cn:Int).tmod 128*2^(7*i)=(t:Int):=by rw [zk (by omega),ht];simp
    have x3:IntKind.wrap .i64 ((cn:Int).tmod 128*2^(7*i))=(t:Int):=by rw [xt];exact wrap_i64 (by omega) (by omega)
    have x4:IntKind.wrap .i64 ((x:Int)+(t:Int))=(x:Int)+(t:Int):=wrap_i64 (by omega) (by omega);have x6:(2:Nat)^(7*(i+1))=128*2^(7*i):=by rw [show 7*(i+1)=7*i+7 by omega,Nat.pow_add];omega
    have bQ:x+t<128^(i+1):=by
     have h1:t≤127*2^(7*i):=by rw [ht];exact zL (by omega) (zw _)
     rw [zr,kK];rw [kK] at y2;omega
    by_cases c6:128≤cn
    ·have c7:(128:Int)≤(cn:Int):=by omega
     have c8:(127:Int)<(cn:Int):=by omega
     have Dx:cL true 5 (b.drop m)=kS (i+1) (x+t) (cL (i+1==0) (5-(i+1)) (b.drop (m+(i+1)))):=by
      rw [y3,u7,hdr,show 5-(i+1)=4-i by omega];simp only [cL];rw [if_pos c7,show (i+1==0)=false from by simp];cases cL false (4-i) r with
      |none=>rfl
      |some yk=>
       obtain ⟨y,k⟩:=yk;simp only [kS,zC,zN];refine ⟨?_,by omega⟩;rw [show ((cn:Int)%128).toNat=cn%128 by omega,ht,kK,zr,Nat.mul_add,kK,zB (2^(7*i)) (cn%128),Zj,zO]
     unfold nW;refine Ud (J8 cN fF eZ w1 w2 w3 w4 (J8 w5 c1 c2 c3 c4 c5 x7 (J7 x0 x1 x2 x3 x4 c7 c8))) ?_;exact ⟨(i+1,x+t),by simp,⟨by omega,bQ,Dx⟩,by simp only;omega⟩
    ·have c7:¬(128:Int)≤(cn:Int):=by omega
     have c8:¬(127:Int)<(cn:Int):=by omega
     have mZ:t=128^i*cn:=by rw [ht,kK,zI (by omega),zB]
     have rA:cL true 5 (b.drop m)=if 0<i∧cn=0 then none else some (x+t,i+1):=by
      rw [y3,u7];simp only [cL];rw [if_neg c7];by_cases z0:0<i∧cn=0
      ·rw [if_pos z0,if_pos ⟨by simp;omega,by omega⟩];try rfl
      ·rw [if_neg z0,if_neg (fun e=>z0 ⟨by have:=e.1;simp at this;omega,by have:=e.2;omega⟩)];simp [kS,mZ]
     by_cases z0:0<i∧cn=0
     ·have cT:gN b (m:Int)=none:=by rw [cS,rA,if_pos z0];try rfl
      obtain ⟨z1,z2⟩:=z0;have z3:(0:Int)<(i:Int):=by omega
      unfold nW;refine Ud (J8 cN fF eZ w1 w2 w3 w4 (J8 w5 c1 c2 c3 c4 c5 x7 (J8 x0 x1 x2 x3 x4 c7 c8 (J3 z1 z2 cT)))) ?_;simp [nT,cT]
     ·by_cases z5:x+t≤2000000000
      ·have cT:gN b (m:Int)=some (iu ((x:Int)+(t:Int)),(m:Int)+(i:Int)+1):=by
        rw [cS,rA,if_neg z0];simp [pV,z5];omega
       have z6:¬(2000000000:Int)<(x:Int)+(t:Int):=by omega
       have z7:0<i→cn≠0:=fun e1 e2=>z0 ⟨e1,e2⟩
       by_cases z8:0<i
       ·have z9:=z7 z8;unfold nW;refine Ud (J8 cN fF eZ w1 w2 w3 w4 (J8 w5 c1 c2 c3 c4 c5 x7 (J8 x0 x1 x2 x3 x4 c7 c8 (J4 z6 z8 z9 cT)))) ?_;simp [nT,cT]
       ·unfold nW;refine Ud (J8 cN fF eZ w1 w2 w3 w4 (J8 w5 c1 c2 c3 c4 c5 x7 (J8 x0 x1 x2 x3 x4 c7 c8 (J3 z6 z8 cT)))) ?_;simp [nT,cT]
      ·have cT:gN b (m:Int)=none:=by
        rw [cS,rA,if_neg z0];simp [pV,z5]
       have z6:(2000000000:Int)<(x:Int)+(t:Int):=by omega
       unfold nW;refine Ud (J8 cN fF eZ w1 w2 w3 w4 (J8 w5 c1 c2 c3 c4 c5 x7 (J8 x0 x1 x2 x3 x4 c7 c8 (J2 z6 cT)))) ?_ ?_;all_goals repeat intro hc
       all_goals simp [nT,cT]
 ·have cT:gN b u=none:=by simp [gN];omega
  by_cases ee:u=(b.length:Int)
  ·subst ee
   repeat' (first
    |with_reducible (first|refine wp_seq ?_|refine aU ?_|refine wp_skip ?_|refine wp_exit ?_|refine wp_ret ?_|refine aQ ?_|refine aR ?_|refine aP ?_|refine aC ?_|refine aD ?_|refine aB ?_|refine aM ?_|refine aL ?_|refine aO ?_|refine aK ?_|refine aJ ?_|refine aG ?_|refine aF ?_|refine aI ?_|refine aH ?_)
    |(with_reducible refine wp_loop (c:=nW) ?_
      conv=>arg 2;unfold nW)
    |(with_reducible refine aV fun K hK=>?_
      simp[cT]
      repeat' (with_reducible first|refine hK _ ?_|(refine aw ?_ ?_<;>(intro hc;(try rw [za] at hc);first|(exfalso;omega)|(try simp [hc,cT]))))
      all_goals (clear hK;clear K))
    |(with_reducible refine aW ?_
      refine ⟨_,rfl,?_,?_⟩<;>(intro hc;(try simp at hc);(all_goals first|(exfalso;omega)|skip))))
   simp [nT,cT]
  ·refine Ud cT ?_ ?_;all_goals repeat intro hc
   all_goals simp [nT,cT]
@[simp] theorem acS (h:b.length≤1048576) (hb:aZ b):Gw TT 491 [.one (.ro k0 (.sl 1 (b.map eb))),vi u]=some (gV (gN b u),[]):=by
 refine Ga nS Fq ?_;unfold Fq;by_cases q1:0≤u∧u<(b.length:Int)
 ·obtain ⟨m,rfl⟩:=zj q1.1;have q3:m<b.length:=by omega
  have q4:(m:Int)≤(b.length:Int):=by omega
  have q5:¬(b.length:Int)≤(m:Int):=by omega
  refine Ud (J3 q3 q4 q5) ?_;refine ba (σ:=Nat×Nat) (fun s=>[(0,AV.v k0 (D.sl 1 (b.map eb)),none),(1,AV.v false (di (m:Nat)),none),(7,AV.v false (di (s.2:Nat)),none),(8,AV.v false (di (s.1:Nat)),none)]) (fun s=>s.1≤5∧s.2<128^s.1∧cL true 5 (b.drop m)=kS s.1 s.2 (cL (s.1==0) (5-s.1) (b.drop (m+s.1)))) (fun s=>5-s.1) (0,0) (by simp) ⟨by omega,by simp,by simp [kS];cases cL true 5 (b.drop m)<;>simp⟩ ?_;rintro ⟨i,x⟩ ⟨y1,y2,y3⟩;simp only at y1 y2 y3
  have cS:gN b (m:Int)=(match pV (cL true 5 (b.drop m)) with|some (n,k)=>some (n,(m:Int)+(k:Int))|none=>none):=by
   (simp [gN,q3,Lj];try rfl)
  by_cases e5:i=5
  ·subst e5;have nL:cL true 5 (b.drop m)=none:=by rw [y3];simp [cL,kS]
   have cT:gN b (m:Int)=none:=by rw [cS,nL];try rfl
   unfold nV;refine Ud cT ?_;simp [nS,cT]
  ·cases hr:b.drop (m+i) with
   |nil=>
    have cI:=congrArg zF hr;simp only [zH,zg] at cI
    have nL:cL true 5 (b.drop m)=none:=by
     rw [y3,hr];have:5-i=(4-i)+1:=by omega
     rw [this];simp [cL,kS]
    have cT:gN b (m:Int)=none:=by rw [cS,nL];try rfl
    have w1:IntKind.wrap .i64 ((m:Int)+(i:Int))=(m:Int)+(i:Int):=wrap_i64 (by omega) (by omega);have w2:IntKind.wrap .i64 ((b.length:Int)-(m:Int))=(b.length:Int)-(m:Int):=wrap_i64 (by omega) (by omega);have c1:¬(m:Int)+(i:Int)<(b.length:Int):=by omega
    have c2:¬(i:Int)<(b.length:Int)-(m:Int):=by omega
    unfold nV;refine Ud (J5 cT w1 w2 c1 c2) ?_;repeat intro hc
    simp [nS,cT]
   |cons c r=>
    have cI:=congrArg zF hr;simp only [zH,zb] at cI;have eZ:m+i<b.length:=by omega
    have cN:b[m+i]?=some c:=by
     have:=congrArg (fun l=>l[0]?) hr;simpa using this
    have fF:b[m+i]=c:=(zf.1 cN).2;have dF:=hb c (zu cN);obtain ⟨cn,rfl⟩:=zj dF.1
    have hdr:b.drop (m+(i+1))=r:=by
     rw [←zO,←Zg,hr];simp
    have u7:cL (i==0) (5-i) (b.drop (m+i))=cL (i==0) ((4-i)+1) ((cn:Int)::r):=by rw [hr,show 5-i=(4-i)+1 by omega]
    have w1:IntKind.wrap .i64 ((m:Int)+(i:Int))=(m:Int)+(i:Int):=wrap_i64 (by omega) (by omega);have w2:IntKind.wrap .i64 ((b.length:Int)-(m:Int))=(b.length:Int)-(m:Int):=wrap_i64 (by omega) (by omega);have w3:IntKind.wrap .i64 ((m:Int)+(i:Int)+1)=(m:Int)+(i:Int)+1:=wrap_i64 (by omega) (by omega);have w4:IntKind.wrap .i64 (cn:Int)=(cn:Int):=wrap_i64 (by omega) (by omega);have w5:IntKind.wrap .i64 ((i:Int)+1)=(i:Int)+1:=wrap_i64 (by omega) (by omega);have c1:(m:Int)+(i:Int)<(b.length:Int):=by omega
    have c2:(i:Int)<(b.length:Int)-(m:Int):=by omega
    have c3:(i:Int)<5:=by omega
    have c4:((m:Int)+(i:Int)).toNat=m+i:=by omega
    have c5:(0:Int)≤(m:Int)+(i:Int):=by omega
    have kK:(128:Nat)^i=2^(7*i):=by rw [Nat.pow_mul]
    have dX:(2:Nat)^(7*i)≤2^28:=zV (by omega) (by omega);have Sv:1≤(2:Nat)^(7*i):=Za (by simp);obtain ⟨t,ht⟩:∃t:Nat,t=cn%128*2^(7*i):=⟨_,rfl⟩;have vo:t≤127*2^28:=by rw [ht];exact zL (by omega) dX
    have x7:IntKind.wrap .i64 (7*(i:Int))=7*(i:Int):=wrap_i64 (by omega) (by omega);have x0:¬(7*(i:Int)<0):=by omega
    have x1:(7*(i:Int)).toNat=7*i:=by omega
    have x2:min (7*i) IntKind.i64.bits=7*i:=by simp [IntKind.bits];omega
    have xt:(cn:Int).tmod 128*2^(7*i)=(t:Int):=by rw [zk (by omega),ht];simp
    have x3:IntKind.wrap .i64 ((cn:Int).tmod 128*2^(7*i))=(t:Int):=by rw [xt];exact wrap_i64 (by omega) (by omega)
    have x4:IntKind.wrap .i64 ((x:Int)+(t:Int))=(x:Int)+(t:Int):=wrap_i64 (by omega) (by omega);have x6:(2:Nat)^(7*(i+1))=128*2^(7*i):=by rw [show 7*(i+1)=7*i+7 by omega,Nat.pow_add];omega
    have bQ:x+t<128^(i+1):=by
     have h1:t≤127*2^(7*i):=by rw [ht];exact zL (by omega) (zw _)
     rw [zr,kK];rw [kK] at y2;omega
    have a0:(2:Nat)^IntKind.i64.bits=18446744073709551616:=by simp [IntKind.bits]
    have a1:x%2^IntKind.i64.bits=x:=by rw [a0];exact zI (by rw [kK] at y2;omega)
    have a2:cn%2^IntKind.i64.bits=cn:=by rw [a0];exact zI (by omega)
    have a3:127%2^IntKind.i64.bits=127:=by rw [a0]
    have a4:cn &&& 127=cn%128:=by rw [show (127:Nat)=2^7-1 by rfl,Nat.and_two_pow_sub_one_eq_mod]
    have a5:IntKind.wrap .i64 ((cn:Int)%128)=(cn:Int)%128:=wrap_i64 (by omega) (by omega);have a6:IntKind.wrap .i64 ((cn:Int)%128*2^(7*i))=(t:Int):=by rw [←zk (by omega)];exact x3
    have a7:(t:Int)%2^IntKind.i64.bits=(t:Int):=by rw [show (2:Int)^IntKind.i64.bits=18446744073709551616 by simp [IntKind.bits]];omega
    have a9:t%2^IntKind.i64.bits=t:=by rw [a0];omega
    have a8:x ||| t=x+t:=by
     rw [kK] at y2;rw [ht,zB,Nat.or_comm,←Nat.two_pow_add_eq_or_of_lt y2,Nat.add_comm]
    by_cases c6:128≤cn
    ·have c7:(128:Int)≤(cn:Int):=by omega
     have c8:(127:Int)<(cn:Int):=by omega
     have Dx:cL true 5 (b.drop m)=kS (i+1) (x+t) (cL (i+1==0) (5-(i+1)) (b.drop (m+(i+1)))):=by
      rw [y3,u7,hdr,show 5-(i+1)=4-i by omega];simp only [cL];rw [if_pos c7,show (i+1==0)=false from by simp];cases cL false (4-i) r with
      |none=>rfl
      |some yk=>
       obtain ⟨y,k⟩:=yk;simp only [kS,zC,zN];refine ⟨?_,by omega⟩;rw [show ((cn:Int)%128).toNat=cn%128 by omega,ht,kK,zr,Nat.mul_add,kK,zB (2^(7*i)) (cn%128),Zj,zO]
     unfold nV;refine Ud (J8 cN fF eZ w1 w2 w3 w4 (J8 w5 c1 c2 c3 c4 c5 x7 (J8 x0 x1 x2 x3 x4 c7 c8 (J8 a1 a2 a3 a4 a5 a6 a7 (J2 a8 a9))))) ?_;exact ⟨(i+1,x+t),by simp,⟨by omega,bQ,Dx⟩,by simp only;omega⟩
    ·have c7:¬(128:Int)≤(cn:Int):=by omega
     have c8:¬(127:Int)<(cn:Int):=by omega
     have mZ:t=128^i*cn:=by rw [ht,kK,zI (by omega),zB]
     have rA:cL true 5 (b.drop m)=if 0<i∧cn=0 then none else some (x+t,i+1):=by
      rw [y3,u7];simp only [cL];rw [if_neg c7];by_cases z0:0<i∧cn=0
      ·rw [if_pos z0,if_pos ⟨by simp;omega,by omega⟩];try rfl
      ·rw [if_neg z0,if_neg (fun e=>z0 ⟨by have:=e.1;simp at this;omega,by have:=e.2;omega⟩)];simp [kS,mZ]
     by_cases z0:0<i∧cn=0
     ·have cT:gN b (m:Int)=none:=by rw [cS,rA,if_pos z0];try rfl
      obtain ⟨z1,z2⟩:=z0;have z3:(0:Int)<(i:Int):=by omega
      unfold nV;refine Ud (J8 cN fF eZ w1 w2 w3 w4 (J8 w5 c1 c2 c3 c4 c5 x7 (J8 x0 x1 x2 x3 x4 c7 c8 (J8 z1 z2 cT a1 a2 a3 a4 (J5 a5 a6 a7 a8 a9))))) ?_ ?_;all_goals repeat intro hc
      all_goals simp [nS,cT]
     ·by_cases z5:x+t≤2000000000
      ·have cT:gN b (m:Int)=some (iu ((x:Int)+(t:Int)),(m:Int)+(i:Int)+1):=by
        rw [cS,rA,if_neg z0];simp [pV,z5];omega
       have z6:¬(2000000000:Int)<(x:Int)+(t:Int):=by omega
       have z7:0<i→cn≠0:=fun e1 e2=>z0 ⟨e1,e2⟩
       by_cases z8:0<i
       ·have z9:=z7 z8;unfold nV;refine Ud (J8 cN fF eZ w1 w2 w3 w4 (J8 w5 c1 c2 c3 c4 c5 x7 (J8 x0 x1 x2 x3 x4 c7 c8 (J8 z6 z8 z9 cT a1 a2 a3 (J6 a4 a5 a6 a7 a8 a9))))) ?_;simp [nS,cT]
       ·unfold nV;refine Ud (J8 cN fF eZ w1 w2 w3 w4 (J8 w5 c1 c2 c3 c4 c5 x7 (J8 x0 x1 x2 x3 x4 c7 c8 (J8 z6 z8 cT a1 a2 a3 a4 (J5 a5 a6 a7 a8 a9))))) ?_ ?_;all_goals repeat intro hc
        all_goals simp [nS,cT]
      ·have cT:gN b (m:Int)=none:=by
        rw [cS,rA,if_neg z0];simp [pV,z5]
       have z6:(2000000000:Int)<(x:Int)+(t:Int):=by omega
       unfold nV;refine Ud (J8 cN fF eZ w1 w2 w3 w4 (J8 w5 c1 c2 c3 c4 c5 x7 (J8 x0 x1 x2 x3 x4 c7 c8 (J8 z6 cT a1 a2 a3 a4 a5 (J4 a6 a7 a8 a9))))) ?_;simp [nS,cT]
 ·have cT:gN b u=none:=by simp [gN];omega
  by_cases ee:u=(b.length:Int)
  ·subst ee
   repeat' (first
    |with_reducible (first|refine wp_seq ?_|refine aU ?_|refine wp_skip ?_|refine wp_exit ?_|refine wp_ret ?_|refine aQ ?_|refine aR ?_|refine aP ?_|refine aC ?_|refine aD ?_|refine aB ?_|refine aM ?_|refine aL ?_|refine aO ?_|refine aK ?_|refine aJ ?_|refine aG ?_|refine aF ?_|refine aI ?_|refine aH ?_)
    |(with_reducible refine wp_loop (c:=nV) ?_
      conv=>arg 2;unfold nV)
    |(with_reducible refine aV fun K hK=>?_
      simp[cT]
      repeat' (with_reducible first|refine hK _ ?_|(refine aw ?_ ?_<;>(intro hc;(try rw [za] at hc);first|(exfalso;omega)|(try simp [hc,cT]))))
      all_goals (clear hK;clear K))
    |(with_reducible refine aW ?_
      refine ⟨_,rfl,?_,?_⟩<;>(intro hc;(try simp at hc);(all_goals first|(exfalso;omega)|skip))))
   simp [nS,cT]
  ·refine Ud cT ?_;repeat intro hc
   simp [nS,cT]
def jm (b:List Int):Nat→Int→Option (List Int×Int)
 |0,u=>some ([],u)
 |k+1,u=>match gN b u with
  |some (n,t)=>match jm b k t with
   |some (l,v)=>some (n::l,v)
   |none=>none
  |none=>none
def fh (b:List Int) (u:Int):Option (List Int×Int):=match gN b u with
 |some (k,t)=>if 0≤k∧k≤64 then jm b k.toNat t else none
 |none=>none
def xC (r:Option (List Int×Int)):V:=match r with
 |some (l,t)=>.a_ [.one (.own (.sl 1 (l.map ei))),vi t,vb true]
 |none=>.a_ [.one (.own (.sl 1 [])),vi 0,vb false]
@[simp] theorem abh (l:List Int) (t:Int):xC (some (l,t))=.a_ [.one (.own (.sl 1 (l.map ei))),vi t,vb true]:=rfl
@[simp] theorem abg:xC none=.a_ [.one (.own (.sl 1 [])),vi 0,vb false]:=rfl
def gC {α:Type} (a:List α) (r:Option (List α×Int)):Option (List α×Int):=match r with
 |some (l,v)=>some (a++l,v)
 |none=>none
@[simp] theorem ab4 {α:Type} (a:List α):gC a none=none:=rfl
@[simp] theorem sn {α:Type} (a l:List α) (v:Int):gC a (some (l,v))=some (a++l,v):=rfl
theorem sk {α:Type} (r:Option (List α×Int)):gC [] r=r:=by cases r<;>rfl
theorem M7 {b:List Int} {a:List Int} {k:Nat} {u n t:Int} (h:gN b u=some (n,t)):gC a (jm b (k+1) u)=gC (a++[n]) (jm b k t):=by
 simp only [jm,h];cases jm b k t with
 |none=>rfl
 |some x=>simp [gC]
theorem M6 {b:List Int} {a:List Int} {k:Nat} {u:Int} (h:gN b u=none):gC a (jm b (k+1) u)=none:=by
 simp only [jm,h];rfl
@[simp] theorem acT (h:b.length≤1048576) (hb:aZ b):Gw TT 494 [.one (.ro k0 (.sl 1 (b.map eb))),vi u]=some (xC (fh b u),[]):=by
 refine Ga tJ Fu ?_;unfold Fu;cases hg:gN b u with
 |none=>
  have cS:fh b u=none:=by simp [fh,hg]
  refine Uw (J4 h hb hg cS) ?_;simp [tJ,cS]
 |some q=>
  obtain ⟨K,t⟩:=q;by_cases q1:0≤K∧K≤64
  ·obtain ⟨m,rfl⟩:=zj q1.1;have q2:(m:Int)≤64:=q1.2;have uU:fh b u=jm b m t:=by simp [fh,hg];intro e;omega
   refine Uw (J4 h hb hg q2) ?_;refine ba (σ:=List Int×(Nat×Int)) (fun s=>[(0,AV.v k0 (D.sl 1 (b.map eb)),none),(1,AV.v false (di s.2.2),none),(7,AV.v false (di (m:Nat)),none),(9,AV.pl 9 0 [],some (Rt.an [C.own (D.sl 1 ((s.1).map ei))])),(10,AV.v false (di (s.1.length:Nat)),none)]) (fun s=>s.1.length+s.2.1=m∧fh b u=gC s.1 (jm b s.2.1 s.2.2)) (fun s=>s.2.1) ([],(m,t)) (by simp) ⟨by simp,by rw [sk];exact uU⟩ ?_;rintro ⟨a,⟨i,v⟩⟩ ⟨y1,y2⟩;simp only at y1 y2;have hq:(a.length+1)*8≤70368744177664:=by omega
   cases i with
   |zero=>
    have c1:¬(a.length:Int)<(m:Int):=by omega
    simp only [jm,sn,zn] at y2;unfold AR;refine Uw (J2 c1 y2) ?_;simp [tJ,y2]
   |succ i=>
    have c1:(a.length:Int)<(m:Int):=by omega
    have hw:=Wi ((a.length:Int)+1);cases hv:gN b v with
    |none=>
     rw [M6 hv] at y2;unfold AR;refine Uw (J7 h hb c1 hv hw hq y2) ?_;simp [tJ,y2]
    |some q=>
     obtain ⟨n,t2⟩:=q;rw [M7 hv] at y2;unfold AR;refine Uw (J6 h hb c1 hv hw hq) ?_;exact ⟨(a++[n],(i,t2)),by simp,⟨by simp;omega,y2⟩,by simp⟩
  ·have cS:fh b u=none:=by simp [fh,hg,q1]
   refine Uw (J4 h hb hg cS) ?_;repeat intro hc
   simp [tJ,cS]
@[simp] theorem acR (h:b.length≤1048576) (hb:aZ b):Gw TT 490 [.one (.ro k0 (.sl 1 (b.map eb))),vi u]=some (xC (fh b u),[]):=by
 refine Ga tH Fp ?_;unfold Fp;cases hg:gN b u with
 |none=>
  have cS:fh b u=none:=by simp [fh,hg]
  refine Uw (J4 h hb hg cS) ?_;simp [tH,cS]
 |some q=>
  obtain ⟨K,t⟩:=q;by_cases q1:0≤K∧K≤64
  ·obtain ⟨m,rfl⟩:=zj q1.1;have q2:(m:Int)≤64:=q1.2;have uU:fh b u=jm b m t:=by simp [fh,hg];intro e;omega
   refine Uw (J4 h hb hg q2) ?_;refine ba (σ:=List Int×(Nat×Int)) (fun s=>[(0,AV.v k0 (D.sl 1 (b.map eb)),none),(7,AV.v false (di (m:Nat)),none),(8,AV.v false (di s.2.2),none),(10,AV.pl 10 0 [],some (Rt.an [C.own (D.sl 1 ((s.1).map ei))])),(11,AV.v false (di (s.1.length:Nat)),none)]) (fun s=>s.1.length+s.2.1=m∧fh b u=gC s.1 (jm b s.2.1 s.2.2)) (fun s=>s.2.1) ([],(m,t)) (by simp) ⟨by simp,by rw [sk];exact uU⟩ ?_;rintro ⟨a,⟨i,v⟩⟩ ⟨y1,y2⟩;simp only at y1 y2;have hq:(a.length+1)*8≤70368744177664:=by omega
   cases i with
   |zero=>
    have c1:¬(a.length:Int)<(m:Int):=by omega
    simp only [jm,sn,zn] at y2;unfold AQ;refine Uw (J2 c1 y2) ?_;simp [tH,y2]
   |succ i=>
    have c1:(a.length:Int)<(m:Int):=by omega
    have hw:=Wi ((a.length:Int)+1);cases hv:gN b v with
    |none=>
     rw [M6 hv] at y2;unfold AQ;refine Uw (J7 h hb c1 hv hw hq y2) ?_;simp [tH,y2]
    |some q=>
     obtain ⟨n,t2⟩:=q;rw [M7 hv] at y2;unfold AQ;refine Uw (J6 h hb c1 hv hw hq) ?_;exact ⟨(a++[n],(i,t2)),by simp,⟨by simp;omega,y2⟩,by simp⟩
  ·have cS:fh b u=none:=by simp [fh,hg,q1]
   refine Uw (J4 h hb hg cS) ?_;repeat intro hc
   simp [tH,cS]
def D8:ByteArray:=⟨#[0,1,2,2,3,3,3,3,4,4,4,4,4,4,4,4,5,5,5,5,5,5,5,5,5,5,5,5,5,5,5,5,6,6,6,6,6,6,6,6,6,6,6,6,6,6,6,6,6,6,6,6,6,6,6,6,6,6,6,6,6,6,6,6,7,7,7,7,7,7,7,7,7,7,7,7,7,7,7,7,7,7,7,7,7,7,7,7,7,7,7,7,7,7,7,7,7,7,7,7,7,7,7,7,7,7,7,7,7,7,7,7,7,7,7,7,7,7,7,7,7,7,7,7,7,7,7,7,8,8,8,8,8,8,8,8,8,8,8,8,8,8,8,8,8,8,8,8,8,8,8,8,8,8,8,8,8,8,8,8,8,8,8,8,8,8,8,8,8,8,8,8,8,8,8,8,8,8,8,8,8,8,8,8,8,8,8,8,8,8,8,8,8,8,8,8,8,8,8,8,8,8,8,8,8,8,8,8,8,8,8,8,8,8,8,8,8,8,8,8,8,8,8,8,8,8,8,8,8,8,8,8,8,8,8,8,8,8,8,8,8,8,8,8,8,8,8,8,8,8,8,8,8,8,8,8]⟩
def cB (x:Nat):Nat:=if h:x=0 then 0 else cB (x/2)+1
termination_by x
decreasing_by omega
theorem uc:cB 0=0:=by rw [cB];simp
theorem Bu {x:Nat} (h:x≠0):cB x=cB (x/2)+1:=by rw [cB];simp [h]
theorem Bt:∀(k x:Nat),2^k≤x→cB x=k+cB (x/2^k)
 |0,x,_=>by simp
 |k+1,x,h=>by
  have h1:2^k≤x/2:=by rw [zr] at h;omega
  have h2:=Nat.two_pow_pos k;rw [Bu (by omega),Bt k (x/2) h1,Nat.div_div_eq_div_mul,zr,zB 2];omega
def uu:Nat→Nat→Nat
 |0,_=>0
 |f+1,x=>if x=0 then 0 else uu f (x/2)+1
theorem J0:∀(f x:Nat),x<2^f→uu f x=cB x
 |0,x,h=>by simp at h;subst h;simp [uu,uc]
 |f+1,x,h=>by
  simp only [uu];by_cases h0:x=0
  ·subst h0;simp [uc]
  ·rw [if_neg h0,Bu h0,J0 f (x/2) (by rw [zr] at h;omega)]
theorem TK:∀i:Fin 256,D8.data.toList[i.val]?=some (zD (uu 8 i.val)):=by decide+kernel
theorem qG:∀(f x:Nat),x<2^f→cB x≤f
 |0,x,h=>by simp at h;subst h;simp [uc]
 |f+1,x,h=>by
  by_cases h0:x=0
  ·subst h0;simp [uc]
  ·rw [Bu h0];have:=qG f (x/2) (by rw [zr] at h;omega);omega
theorem yc {i:Nat} (h:i<256):D8.toList[i]?=some (zD (cB i)):=by
 rw [ByteArray.toList_eq];have:=TK ⟨i,h⟩;simp only at this;rw [this,J0 8 i (by omega)]
theorem yd {i:Nat} (h:i<256):(zD (cB i)).toNat=cB i:=by
 have:=qG 8 i (by omega);simp;omega
theorem WQ (h:x<2147483648):Gw TT 594 [.one (.ro false (.int .u64 (x:Int)))]=some (vi ((cB x:Nat):Int),[]):=by
 refine Ga tQ GV ?_;unfold GV;rw [show (⟨#[0,1,2,2,3,3,3,3,4,4,4,4,4,4,4,4,5,5,5,5,5,5,5,5,5,5,5,5,5,5,5,5,6,6,6,6,6,6,6,6,6,6,6,6,6,6,6,6,6,6,6,6,6,6,6,6,6,6,6,6,6,6,6,6,7,7,7,7,7,7,7,7,7,7,7,7,7,7,7,7,7,7,7,7,7,7,7,7,7,7,7,7,7,7,7,7,7,7,7,7,7,7,7,7,7,7,7,7,7,7,7,7,7,7,7,7,7,7,7,7,7,7,7,7,7,7,7,7,8,8,8,8,8,8,8,8,8,8,8,8,8,8,8,8,8,8,8,8,8,8,8,8,8,8,8,8,8,8,8,8,8,8,8,8,8,8,8,8,8,8,8,8,8,8,8,8,8,8,8,8,8,8,8,8,8,8,8,8,8,8,8,8,8,8,8,8,8,8,8,8,8,8,8,8,8,8,8,8,8,8,8,8,8,8,8,8,8,8,8,8,8,8,8,8,8,8,8,8,8,8,8,8,8,8,8,8,8,8,8,8,8,8,8,8,8,8,8,8,8,8,8,8,8,8,8,8]⟩:ByteArray)=D8 from rfl];have e1:¬(4294967296:Int)≤(x:Int):=by omega
 have m1:min 16 IntKind.u64.bits=16:=by simp [IntKind.bits]
 have m2:min 8 IntKind.u64.bits=8:=by simp [IntKind.bits]
 by_cases c1:65536≤x
 ·have c2:(65536:Int)≤(x:Int):=by omega
  obtain ⟨y,hy⟩:∃y,y=x/65536:=⟨_,rfl⟩;have f1:(x:Int).fdiv 65536=(y:Int):=by rw [zp _ (by omega)];omega
  have w1:cB x=16+cB y:=by rw [hy];exact Bt 16 x (by omega)
  by_cases d1:256≤y
  ·have d2:(256:Int)≤(y:Int):=by omega
   obtain ⟨z,hz⟩:∃z,z=y/256:=⟨_,rfl⟩;have f2:(y:Int).fdiv 256=(z:Int):=by rw [zp _ (by omega)];omega
   have w2:cB y=8+cB z:=by rw [hz];exact Bt 8 y (by omega)
   have z1:IntKind.wrap .u8 ((z:Nat):Int)=((z:Nat):Int):=wrap_u8 (by omega) (by omega);have z2:=yc (i:=z) (by omega);have z3:=yd (i:=z) (by omega);have z4:=qG 8 (z) (by omega);have z5:IntKind.wrap .i64 ((cB (z):Nat):Int)=((cB (z):Nat):Int):=wrap_i64 (by omega) (by omega);have z6:IntKind.wrap .i64 ((24:Int)+((cB (z):Nat):Int))=((cB x:Nat):Int):=by rw [wrap_i64 (by omega) (by omega)];omega
   generalize DX:cB x=wx at *;generalize DW:cB (z)=ws at *;refine Ua (J8 c2 d2 f1 f2 m1 m2 z1 (J5 z2 z3 z5 z6 e1)) ?_;simp [tQ, *]
  ·have d2:¬(256:Int)≤(y:Int):=by omega
   have z1:IntKind.wrap .u8 ((y:Nat):Int)=((y:Nat):Int):=wrap_u8 (by omega) (by omega);have z2:=yc (i:=y) (by omega);have z3:=yd (i:=y) (by omega);have z4:=qG 8 (y) (by omega);have z5:IntKind.wrap .i64 ((cB (y):Nat):Int)=((cB (y):Nat):Int):=wrap_i64 (by omega) (by omega);have z6:IntKind.wrap .i64 ((16:Int)+((cB (y):Nat):Int))=((cB x:Nat):Int):=by rw [wrap_i64 (by omega) (by omega)];omega
   generalize DX:cB x=wx at *;generalize DW:cB (y)=ws at *;refine Ua (J8 c2 d2 f1 m1 m2 z1 z2 (J4 z3 z5 z6 e1)) ?_;simp [tQ, *]
 ·have c2:¬(65536:Int)≤(x:Int):=by omega
  by_cases d1:256≤x
  ·have d2:(256:Int)≤(x:Int):=by omega
   obtain ⟨z,hz⟩:∃z,z=x/256:=⟨_,rfl⟩;have f2:(x:Int).fdiv 256=(z:Int):=by rw [zp _ (by omega)];omega
   have w2:cB x=8+cB z:=by rw [hz];exact Bt 8 x (by omega)
   have z1:IntKind.wrap .u8 ((z:Nat):Int)=((z:Nat):Int):=wrap_u8 (by omega) (by omega);have z2:=yc (i:=z) (by omega);have z3:=yd (i:=z) (by omega);have z4:=qG 8 (z) (by omega);have z5:IntKind.wrap .i64 ((cB (z):Nat):Int)=((cB (z):Nat):Int):=wrap_i64 (by omega) (by omega);have z6:IntKind.wrap .i64 ((8:Int)+((cB (z):Nat):Int))=((cB x:Nat):Int):=by rw [wrap_i64 (by omega) (by omega)];omega
   generalize DX:cB x=wx at *;generalize DW:cB (z)=ws at *;refine Ua (J8 c2 d2 f2 m1 m2 z1 z2 (J4 z3 z5 z6 e1)) ?_;simp [tQ, *]
  ·have d2:¬(256:Int)≤(x:Int):=by omega
   have z1:IntKind.wrap .u8 ((x:Nat):Int)=((x:Nat):Int):=wrap_u8 (by omega) (by omega);have z2:=yc (i:=x) (by omega);have z3:=yd (i:=x) (by omega);have z4:=qG 8 (x) (by omega);have z5:IntKind.wrap .i64 ((cB (x):Nat):Int)=((cB (x):Nat):Int):=wrap_i64 (by omega) (by omega);have z6:IntKind.wrap .i64 ((0:Int)+((cB (x):Nat):Int))=((cB x:Nat):Int):=by rw [wrap_i64 (by omega) (by omega)];omega
   generalize DX:cB x=wx at *;generalize DW:cB (x)=ws at *;refine Ua (J8 c2 d2 m1 m2 z1 z2 z3 (J3 z5 z6 e1)) ?_;simp [tQ, *]
theorem WO (h:x<2147483648):Gw TT 583 [.one (.ro false (.int .u64 (x:Int)))]=some (vi ((cB x:Nat):Int),[]):=by
 refine Ga HM GK ?_;unfold GK;refine Ua (J2 @WQ h) ?_;all_goals simp [HM]
def ed (n:Int):Int:=if 0≤n∧n≤2147483647 then ((cB n.toNat:Nat):Int) else 0
theorem aaq (n:Int):0≤ed n∧ed n≤31:=by
 unfold ed;split
 ·have:=qG 31 n.toNat (by omega);omega
 ·omega
@[simp] theorem adj:Gw TT 555 [vi n]=some (vi (ed n),[]):=by
 refine Ga yW Ge ?_;unfold Ge;by_cases q:1≤n∧n≤2147483647
 ·obtain ⟨m,rfl⟩:=zj (show 0≤n by omega);have q1:(1:Int)≤(m:Int):=q.1;have q2:(m:Int)≤2147483647:=q.2;have q3:m<2147483648:=by omega
  have hw:IntKind.wrap .u64 (m:Int)=(m:Int):=by simp [IntKind.wrap,IntKind.signed,IntKind.bits];omega
  have hi:ed (m:Int)=((cB m:Nat):Int):=by simp [ed];omega
  refine Uw (J5 q1 q2 hw @WO q3) ?_;simp [yW,hi]
 ·have hi:ed n=0:=by
   unfold ed;split
   ·rw [show n.toNat=0 by omega,uc];try rfl
   ·rfl
  refine Uw Oo ?_;repeat intro hc
  simp [yW,hi]
@[simp] theorem ac_:Gw TT 542 [vi n]=some (vi (ed n),[]):=by
 refine Ga yP F2 ?_;unfold F2;by_cases q:0≤n∧n≤2147483647
 ·obtain ⟨m,rfl⟩:=zj q.1;have q2:(m:Int)≤2147483647:=q.2;have hi:ed (m:Int)=((cB m:Nat):Int):=by simp [ed];omega
  have jj:=qG 31 m (by omega);refine Uw q2 ?_;refine ba (σ:=Nat×Nat) (fun s=>[(3,AV.v false (di (s.1:Nat)),none),(4,AV.v false (di (s.2:Nat)),none)]) (fun s=>s.1+cB s.2=cB m∧s.2≤m) (fun s=>s.2) (0,m) (by simp) ⟨by simp,zw _⟩ ?_;rintro ⟨w,x⟩ ⟨y1,y2⟩;simp only at y1 y2;by_cases c1:x=0
  ·subst c1;rw [uc] at y1;simp only [Nat.add_zero] at y1;unfold IB;refine Uw Oo ?_;simp [yP,hi,y1]
  ·rw [Bu c1] at y1;have c2:(0:Int)<(x:Int):=by omega
   have d_:=Wi ((w:Int)+1);have ea:=Wi ((x:Int)/2);have vr:IntKind.wrap .i64 ((x:Int).tdiv 2)=(x:Int)/2:=by rw [zh (by omega)];exact ea
   unfold IB;refine Uw (J3 c2 d_ vr) ?_;repeat intro hc
   exact ⟨(w+1,x/2),by simp [ea],⟨by show w+1+cB (x/2)=cB m;omega,by show x/2≤m;omega⟩,by show x/2<x;omega⟩
 ·have hi:ed n=0:=by simp [ed,q]
  refine Uw Oo ?_;repeat intro hc
  simp [yP,hi]
def fM:Int→List Int→Int
 |w,[]=>w
 |w,n::l=>fM (if w<ed n then ed n else w) l
theorem OV:∀(l:List Int) (w:Int),0≤w∧w≤31→0≤fM w l∧fM w l≤31
 |[],w,h=>h
 |n::l,w,h=>by
  simp only [fM];have:=aaq n;exact OV l _ (by split<;>omega)
@[simp] theorem adG (l:List Int) (h:l.length≤1048576):Gw TT 588 [.one (.ro k0 (.sl 1 (l.map ei)))]=some (vi (fM 0 l),[]):=by
 refine Ga HO GP ?_;unfold GP;refine Ud Oo ?_;refine ba (σ:=List (Int)×List (Int)×Int) (fun s=>[(3,AV.v false (di s.2.2),none),(6,AV.v k0 (D.sl 1 (l.map ei)),none),(7,AV.v false (di (l.length:Nat)),none),(8,AV.v false (di ((s.1.length:Nat):Int)),none)]) (fun s=>l=s.1++s.2.1∧fM s.2.2 s.2.1=fM 0 l) (fun s=>s.2.1.length) ([],l,0) (by simp) ⟨rfl,rfl⟩ ?_;rintro ⟨pre,rest,a⟩ ⟨h1,h2⟩;simp only at h1 h2;subst h1;simp only [zd,zb] at h;rcases rest with _|⟨d,rest⟩
 ·unfold I1;simp only [fM] at h2;refine Ud Oo ?_;simp_all [HO]
 ·unfold I1;simp only [zb] at h;simp only [fM] at h2;have hw:=Wi ((pre.length:Int)+1);refine Ud hw ?_;repeat intro hc
  (refine ⟨(pre++[d],rest,(if a<ed d then ed d else a)),?_,⟨?_,?_⟩,?_⟩;(focus (first|(simp;done)|(simp_all;done)));(focus (simp;done));(focus (refine zq ?_ h2;clear h2;first|(simp [*];done)|(simp_all;done)|(split<;>simp_all<;>omega)|(split<;>first|(exfalso;omega)|(simp_all;done))));(focus (simp;done)))
@[simp] theorem adx (l:List Int) (h:l.length≤1048576):Gw TT 576 [.one (.ro k0 (.sl 1 (l.map ei)))]=some (vi (fM 0 l),[]):=by
 refine Ga HI GC ?_;unfold GC;refine Ud Oo ?_;refine ba (σ:=List (Int)×List (Int)×Int) (fun s=>[(0,AV.v k0 (D.sl 1 (l.map ei)),none),(3,AV.v false (di s.2.2),none),(4,AV.v false (di ((s.1.length:Nat):Int)),none)]) (fun s=>l=s.1++s.2.1∧fM s.2.2 s.2.1=fM 0 l) (fun s=>s.2.1.length) ([],l,0) (by simp) ⟨rfl,rfl⟩ ?_;rintro ⟨pre,rest,a⟩ ⟨h1,h2⟩;simp only at h1 h2;subst h1;simp only [zd,zb] at h;rcases rest with _|⟨d,rest⟩
 ·unfold IV;simp only [fM] at h2;refine Ud Oo ?_;simp_all [HI]
 ·unfold IV;simp only [zb] at h;simp only [fM] at h2;have hw:=Wi ((pre.length:Int)+1);refine Ud hw ?_ ?_;all_goals repeat intro hc
  all_goals first|(refine ⟨(pre++[d],rest,ed d),?_,⟨?_,?_⟩,?_⟩;(focus (first|(simp;done)|(simp_all;done)));(focus (simp;done));(focus (refine zq ?_ h2;clear h2;first|(simp [*];done)|(simp_all;done)|(split<;>simp_all<;>omega)|(split<;>first|(exfalso;omega)|(simp_all;done))));(focus (simp;done)))|(refine ⟨(pre++[d],rest,a),?_,⟨?_,?_⟩,?_⟩;(focus (first|(simp;done)|(simp_all;done)));(focus (simp;done));(focus (refine zq ?_ h2;clear h2;first|(simp [*];done)|(simp_all;done)|(split<;>simp_all<;>omega)|(split<;>first|(exfalso;omega)|(simp_all;done))));(focus (simp;done)))
def gQ (w:Int):List Int→Bool
 |[]=>true
 |n::l=>if (0≤n∧n≤2147483647)∧ed n≤w then gQ w l else false
@[simp] theorem adK (l:List Int) (h:l.length≤1048576) (w:Int):Gw TT 592 [.one (.ro k0 (.sl 1 (l.map ei))),vi w]=some (vb (gQ w l&&(decide (0≤w)&&decide (w≤31))),[]):=by
 refine Ga AG GU ?_;unfold GU;refine Ud Oo ?_;refine ba (σ:=List (Int)×List (Int)) (fun s=>[(0,AV.v k0 (D.sl 1 (l.map ei)),none),(1,AV.v false (di w),none),(5,AV.v false (di ((s.1.length:Nat):Int)),none)]) (fun s=>l=s.1++s.2∧gQ w s.2=gQ w l) (fun s=>s.2.length) ([],l) (by simp) ⟨rfl,rfl⟩ ?_;rintro ⟨pre,rest⟩ ⟨h1,h2⟩;simp only at h1 h2;subst h1;simp only [zd,zb] at h;rcases rest with _|⟨d,rest⟩
 ·unfold I4;simp only [gQ] at h2;refine Ud Oo ?_;simp_all [AG]
 ·unfold I4;simp only [zb] at h;simp only [gQ] at h2;have hw:=Wi ((pre.length:Int)+1);refine Ud hw ?_ ?_ ?_;all_goals repeat intro hc
  all_goals first|(refine ⟨(pre++[d],rest),?_,⟨?_,?_⟩,?_⟩;(focus (first|(simp;done)|(simp_all;done)));(focus (simp;done));(focus (refine zq ?_ h2;clear h2;first|(simp [*];done)|(simp_all;done)|(split<;>simp_all<;>omega)|(split<;>first|(exfalso;omega)|(simp_all;done))));(focus (simp;done)))|(split at h2<;>first|(exfalso;omega)|(simp_all [AG];done))
def je (k w:Int):Int:=if (0≤k∧k≤64)∧(0≤w∧w≤31) then (k*w+7)/8 else 0
@[simp] theorem adB (k w:Int):Gw TT 581 [vi k,vi w]=some (vi (je k w),[]):=by
 refine Ga Ay GI ?_;unfold GI;by_cases q:(0≤k∧k≤64)∧(0≤w∧w≤31)
 ·have Sj:0≤k*w:=Zh q.1.1 q.2.1;have iC:k*w≤64*31:=Zi q.1.2 q.2.2 q.2.1 (by omega);have hi:je k w=(k*w+7)/8:=by simp [je,q]
  have w1:=Wi (k*w);have w2:=Wi (k*w+7);have w3:IntKind.wrap .i64 ((k*w+7).tdiv 8)=(k*w+7)/8:=by rw [zh (by omega)];exact wrap_i64 (by omega) (by omega)
  refine Ud (J7 q.1.1 q.1.2 q.2.1 q.2.2 w1 w2 w3) ?_;simp [Ay,hi]
 ·have hi:je k w=0:=by simp [je];intro _ _ _ _;exfalso;omega
  refine Ud Oo ?_ ?_;all_goals repeat intro hc
  all_goals simp [Ay,hi]
@[simp] theorem adr (k w:Int):Gw TT 570 [vi k,vi w]=some (vi (je k w),[]):=by
 refine Ga y8 Gv ?_;unfold Gv;by_cases q:(0≤k∧k≤64)∧(0≤w∧w≤31)
 ·have Sj:0≤k*w:=Zh q.1.1 q.2.1;have iC:k*w≤64*31:=Zi q.1.2 q.2.2 q.2.1 (by omega);have hi:je k w=(k*w+7)/8:=by simp [je,q]
  have w1:=Wi (k*w);have w2:=Wi (k*w+7);have w3:IntKind.wrap .i64 ((k*w+7).tdiv 8)=(k*w+7)/8:=by rw [zh (by omega)];exact wrap_i64 (by omega) (by omega)
  refine Ud (J7 q.1.1 q.1.2 q.2.1 q.2.2 w1 w2 w3) ?_;simp [y8,hi]
 ·have hi:je k w=0:=by simp [je];intro _ _ _ _;exfalso;omega
  refine Ud Oo ?_ ?_;all_goals repeat intro hc
  all_goals simp [y8,hi]
def gL (b:List Int) (m:Nat):Nat:=match b[m/8]? with
 |some c=>c.toNat/2^(m%8)%2
 |none=>0
theorem ur (b:List Int) (m:Nat):gL b m≤1:=by
 unfold gL;split<;>omega
@[simp] theorem WN (m:Nat) (h:b.length≤1048576) (hb:aZ b) (hm:m≤4611686018427387904):Gw TT 582 [.one (.ro k0 (.sl 1 (b.map eb))),vi (m:Nat)]=some (vi ((gL b m:Nat):Int),[]):=by
 refine Ga AA GJ ?_;unfold GJ;have d1:(m:Int).tdiv 8=((m/8:Nat):Int):=by rw [zh (by omega)];omega
 have d2:(m:Int).tmod 8=((m%8:Nat):Int):=by rw [zk (by omega)];omega
 have d3:=Wi ((m:Int)/8);have d4:IntKind.wrap .i64 ((m:Int).tdiv 8)=(m:Int)/8:=by rw [zh (by omega)];exact d3
 by_cases q:m/8<b.length
 ·obtain ⟨c,hg⟩:∃c,b[m/8]?=some c:=⟨_,zo q⟩;have fF:b[m/8]=c:=(zf.1 hg).2;have dF:=hb c (zu hg);obtain ⟨cn,rfl⟩:=zj dF.1;have hi:gL b m=cn/2^(m%8)%2:=by simp [gL,hg]
  have q1:(m:Int)/8<(b.length:Int):=by omega
  have q2:¬(b.length:Int)≤(m:Int)/8:=by omega
  have q3:((m:Int)/8).toNat=m/8:=by omega
  have q4:(0:Int)≤(m:Int)/8:=by omega
  have r0:¬((m:Int)%8<0):=by omega
  have r1:((m:Int)%8).toNat=m%8:=by omega
  have r2:min (m%8) IntKind.u8.bits=m%8:=by simp [IntKind.bits];omega
  have r3:min (m%8) IntKind.i64.bits=m%8:=by simp [IntKind.bits];omega
  obtain ⟨v,hv⟩:∃v,v=cn/2^(m%8):=⟨_,rfl⟩;have kg:v≤255:=by rw [hv];exact Nat.le_trans (Ze _ _) (by omega)
  have r4:(cn:Int).fdiv (2^(m%8))=(v:Int):=by
   rw [zp _ (Int.le_of_lt (Int.pow_pos (by omega))),hv];simp
  have r5:v%2^IntKind.u8.bits=v:=by simp [IntKind.bits];omega
  have r6:v%2^IntKind.i64.bits=v:=by simp [IntKind.bits];omega
  have r7:1%2^IntKind.u8.bits=1:=by simp [IntKind.bits]
  have r8:1%2^IntKind.i64.bits=1:=by simp [IntKind.bits]
  have r9:IntKind.wrap .i64 (cn:Int)=(cn:Int):=wrap_i64 (by omega) (by omega);have s1:IntKind.wrap .u8 ((v:Int)%2)=(v:Int)%2:=wrap_u8 (by omega) (by omega);have s2:=Wi ((v:Int)%2);rw [←hv] at hi;refine Ud (J8 q q1 q2 q3 q4 hg fF (J8 d2 d3 d4 r0 r1 r2 r3 (J8 r4 r5 r6 r7 r8 r9 s1 s2))) ?_;repeat intro hc
  simp [AA,hi]
 ·have hi:gL b m=0:=by simp [gL,zT (show b.length≤m/8 by omega)]
  have q2:(b.length:Int)≤(m:Int)/8:=by omega
  refine Ud (J3 q2 d3 d4) ?_;repeat intro hc
  simp [AA,hi]
@[simp] theorem WL (m:Nat) (h:b.length≤1048576) (hb:aZ b) (hm:m≤4611686018427387904):Gw TT 571 [.one (.ro k0 (.sl 1 (b.map eb))),vi (m:Nat)]=some (vi ((gL b m:Nat):Int),[]):=by
 refine Ga y9 Gx ?_;unfold Gx;have d1:(m:Int).tdiv 8=((m/8:Nat):Int):=by rw [zh (by omega)];omega
 have d2:(m:Int).tmod 8=((m%8:Nat):Int):=by rw [zk (by omega)];omega
 have d3:=Wi ((m:Int)/8);have d4:IntKind.wrap .i64 ((m:Int).tdiv 8)=(m:Int)/8:=by rw [zh (by omega)];exact d3
 by_cases q:m/8<b.length
 ·obtain ⟨c,hg⟩:∃c,b[m/8]?=some c:=⟨_,zo q⟩;have fF:b[m/8]=c:=(zf.1 hg).2;have dF:=hb c (zu hg);obtain ⟨cn,rfl⟩:=zj dF.1;have hi:gL b m=cn/2^(m%8)%2:=by simp [gL,hg]
  have q1:(m:Int)/8<(b.length:Int):=by omega
  have q2:¬(b.length:Int)≤(m:Int)/8:=by omega
  have q3:((m:Int)/8).toNat=m/8:=by omega
  have q4:(0:Int)≤(m:Int)/8:=by omega
  have r0:¬((m:Int)%8<0):=by omega
  have r1:((m:Int)%8).toNat=m%8:=by omega
  have r2:min (m%8) IntKind.u8.bits=m%8:=by simp [IntKind.bits];omega
  have r3:min (m%8) IntKind.i64.bits=m%8:=by simp [IntKind.bits];omega
  obtain ⟨v,hv⟩:∃v,v=cn/2^(m%8):=⟨_,rfl⟩;have kg:v≤255:=by rw [hv];exact Nat.le_trans (Ze _ _) (by omega)
  have r4:(cn:Int).fdiv (2^(m%8))=(v:Int):=by
   rw [zp _ (Int.le_of_lt (Int.pow_pos (by omega))),hv];simp
  have r5:v%2^IntKind.u8.bits=v:=by simp [IntKind.bits];omega
  have r6:v%2^IntKind.i64.bits=v:=by simp [IntKind.bits];omega
  have r7:1%2^IntKind.u8.bits=1:=by simp [IntKind.bits]
  have r8:1%2^IntKind.i64.bits=1:=by simp [IntKind.bits]
  have r9:IntKind.wrap .i64 (cn:Int)=(cn:Int):=wrap_i64 (by omega) (by omega);have s1:IntKind.wrap .u8 ((v:Int)%2)=(v:Int)%2:=wrap_u8 (by omega) (by omega);have s2:=Wi ((v:Int)%2);rw [←hv] at hi;refine Ud (J8 q q1 q2 q3 q4 hg fF (J8 d2 d3 d4 r0 r1 r2 r3 (J8 r4 r5 r6 r7 r8 r9 s1 s2))) ?_;repeat intro hc
  simp [y9,hi]
 ·have hi:gL b m=0:=by simp [gL,zT (show b.length≤m/8 by omega)]
  have q2:(b.length:Int)≤(m:Int)/8:=by omega
  refine Ud (J3 q2 d3 d4) ?_;repeat intro hc
  simp [y9,hi]
end Go.Proofs.YtohlfelngklcfaaGreat.OM
