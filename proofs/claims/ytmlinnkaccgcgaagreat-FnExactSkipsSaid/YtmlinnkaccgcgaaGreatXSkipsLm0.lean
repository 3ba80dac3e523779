/- What the functions answer. -/
import Derived.Test.YtmlinnkaccgcgaaGreatOMTypes
import Derived.Test.YtmlinnkaccgcgaaGreatOMHid
import Derived.Test.YtmlinnkaccgcgaaGreatXSkipsPc0
set_option linter.all false
namespace Go.Proofs.YtmlinnkaccgcgaaGreat.OM
set_option maxHeartbeats 4000000
set_option maxRecDepth 100000

def tab : List (Nat × PF):=[(1,pf1),(12,pf12),(19,pf19),(59,pf59),(60,pf60),(69,pf69),(76,pf76),(79,pf79),(87,pf87),(142,pf142),(143,pf143),(144,pf144),(145,pf145),(146,pf146),(147,pf147),(148,pf148),(149,pf149),(150,pf150),(151,pf151),(152,pf152),(153,pf153),(154,pf154),(155,pf155),(156,pf156),(157,pf157),(158,pf158),(159,pf159),(160,pf160),(161,pf161),(162,pf162),(163,pf163),(164,pf164),(165,pf165),(166,pf166),(167,pf167),(210,pf210),(211,pf211),(212,pf212),(213,pf213),(214,pf214),(215,pf215),(216,pf216),(217,pf217),(218,pf218),(219,pf219),(220,pf220),(221,pf221),(222,pf222),(223,pf223),(224,pf224),(225,pf225),(226,pf226),(227,pf227),(228,pf228),(229,pf229),(230,pf230),(231,pf231),(232,pf232),(233,pf233),(234,pf234),(235,pf235),(236,pf236),(237,pf237),(238,pf238),(239,pf239),(240,pf240),(241,pf241),(242,pf242),(243,pf243),(244,pf244),(245,pf245),(246,pf246),(247,pf247),(248,pf248),(249,pf249),(250,pf250),(251,pf251),(252,pf252),(253,pf253),(254,pf254),(255,pf255),(256,pf256),(257,pf257),(258,pf258),(259,pf259),(268,pf268),(298,pf298),(340,pf340),(341,pf341),(377,pf377),(384,pf384),(402,pf402),(412,pf412),(421,pf421),(422,pf422),(444,pf444),(445,pf445),(446,pf446),(447,pf447),(448,pf448),(449,pf449),(462,pf462),(463,pf463),(474,pf474),(475,pf475),(476,pf476),(477,pf477),(478,pf478),(479,pf479),(480,pf480),(481,pf481),(490,pf490),(491,pf491),(492,pf492),(493,pf493),(494,pf494),(495,pf495),(496,pf496),(497,pf497),(498,pf498),(505,pf505),(506,pf506),(507,pf507),(508,pf508),(509,pf509),(510,pf510),(513,pf513),(514,pf514),(515,pf515),(516,pf516),(517,pf517),(518,pf518),(519,pf519),(520,pf520),(521,pf521),(522,pf522),(523,pf523),(524,pf524),(525,pf525),(526,pf526),(527,pf527),(528,pf528),(529,pf529),(530,pf530),(531,pf531),(538,pf538),(539,pf539),(540,pf540),(541,pf541),(542,pf542),(543,pf543),(544,pf544),(545,pf545),(546,pf546),(547,pf547),(548,pf548),(549,pf549),(550,pf550),(551,pf551),(552,pf552),(553,pf553),(554,pf554),(555,pf555),(556,pf556),(557,pf557),(558,pf558),(559,pf559),(560,pf560),(561,pf561),(562,pf562),(566,pf566),(568,pf568),(569,pf569),(570,pf570),(571,pf571),(572,pf572),(573,pf573),(574,pf574),(575,pf575),(576,pf576),(577,pf577),(578,pf578),(579,pf579),(580,pf580),(581,pf581),(582,pf582),(583,pf583),(584,pf584),(585,pf585),(586,pf586),(587,pf587),(588,pf588),(589,pf589),(590,pf590),(591,pf591),(592,pf592),(593,pf593),(594,pf594),(595,pf595),(596,pf596),(597,pf597),(598,pf598),(600,pf600)]
def TT (k : Nat) : Option PF:=tab.lookup k

@[simp] theorem t244 (k0 : Bool) (l : List Int) (h : l.length ≤ 1048576)  : Gw TT 244 [.one (.ro k0 (.sl 1 (l.map ei)))] = some (.one (.own (.sl 1 (l.map ei))),[]):=by
 refine Ga pf244 pb244 ?_
 unfold pb244
 refine Ud Oo ?_
 repeat intro hc
 ·refine wp_loopI (σ:=List Int × List Int) (fun s => [(0,AV.v k0 (D.sl 1 (List.map ei l)),none),(3,AV.pl 3 0 [],some (Rt.vir [C.own (D.sl 1 (s.1.map ei ++ List.replicate s.2.length [.int .i64 0]))])),(4,AV.v false (di (s.1.length : Nat)),none)]) (fun s => l = s.1 ++ s.2) (fun s => s.2.length) ([],l) (by simp) rfl ?_
  rintro ⟨pre,rest⟩ h1
  simp only at h1
  subst h1
  simp only [List.length_append,List.length_cons] at h
  rcases rest with _ | ⟨d,rest⟩
  ·unfold pl244_0
   refine Ud Oo ?_
   all_goals simp [pf244]
  ·unfold pl244_0
   simp only [List.length_cons] at h
   have hw:=Wi ((pre.length : Int) + 1)
   refine Ud (J2 @repS hw) ?_
   repeat intro hc
   all_goals exact ⟨(pre ++ [d],rest),by simp,by simp,by simp⟩

@[simp] theorem t152 (k0 k1 : Bool) (l : List Int) (h : l.length ≤ 1048576)  : Gw TT 152 [.one (.ro k0 (.sl 1 (l.map ei))),.one (.ro k1 (.sl 1 (l.map ei)))] = some (vb true,[]):=by
 refine Ga pf152 pb152 ?_
 unfold pb152
 refine Ud Oo ?_
 ·refine wp_loopI (σ:=List Int × List Int) (fun s => [(0,AV.v k0 (D.sl 1 (List.map ei l)),none),(1,AV.v k1 (D.sl 1 (List.map ei l)),none),(5,AV.v false (di (s.1.length : Nat)),none)]) (fun s => l = s.1 ++ s.2) (fun s => s.2.length) ([],l) (by simp) rfl ?_
  rintro ⟨pre,rest⟩ h1
  simp only at h1
  subst h1
  simp only [List.length_append,List.length_cons] at h
  rcases rest with _ | ⟨d,rest⟩
  ·unfold pl152_0
   refine Ud Oo ?_
   all_goals simp [pf152]
  ·unfold pl152_0
   simp only [List.length_cons] at h
   have hw:=Wi ((pre.length : Int) + 1)
   refine Ud hw ?_
   repeat intro hc
   all_goals exact ⟨(pre ++ [d],rest),by simp,by simp,by simp⟩

@[simp] theorem t236 (k0 : Bool) (l : List Int) (h : l.length ≤ 1048576)  : Gw TT 236 [.one (.ro k0 (.sl 1 (l.map eb)))] = some (.one (.own (.sl 1 (l.map eb))),[]):=by
 refine Ga pf236 pb236 ?_
 unfold pb236
 refine Ud Oo ?_
 repeat intro hc
 ·refine wp_loopI (σ:=List Int × List Int) (fun s => [(0,AV.v k0 (D.sl 1 (List.map eb l)),none),(3,AV.pl 3 0 [],some (Rt.vir [C.own (D.sl 1 (s.1.map eb ++ List.replicate s.2.length [.int .u8 0]))])),(4,AV.v false (di (s.1.length : Nat)),none)]) (fun s => l = s.1 ++ s.2) (fun s => s.2.length) ([],l) (by simp) rfl ?_
  rintro ⟨pre,rest⟩ h1
  simp only at h1
  subst h1
  simp only [List.length_append,List.length_cons] at h
  rcases rest with _ | ⟨d,rest⟩
  ·unfold pl236_0
   refine Ud Oo ?_
   all_goals simp [pf236]
  ·unfold pl236_0
   simp only [List.length_cons] at h
   have hw:=Wi ((pre.length : Int) + 1)
   refine Ud (J2 @repS hw) ?_
   repeat intro hc
   all_goals exact ⟨(pre ++ [d],rest),by simp,by simp,by simp⟩

@[simp] theorem t144 (k0 k1 : Bool) (l : List Int) (h : l.length ≤ 1048576)  : Gw TT 144 [.one (.ro k0 (.sl 1 (l.map eb))),.one (.ro k1 (.sl 1 (l.map eb)))] = some (vb true,[]):=by
 refine Ga pf144 pb144 ?_
 unfold pb144
 refine Ud Oo ?_
 ·refine wp_loopI (σ:=List Int × List Int) (fun s => [(0,AV.v k0 (D.sl 1 (List.map eb l)),none),(1,AV.v k1 (D.sl 1 (List.map eb l)),none),(5,AV.v false (di (s.1.length : Nat)),none)]) (fun s => l = s.1 ++ s.2) (fun s => s.2.length) ([],l) (by simp) rfl ?_
  rintro ⟨pre,rest⟩ h1
  simp only at h1
  subst h1
  simp only [List.length_append,List.length_cons] at h
  rcases rest with _ | ⟨d,rest⟩
  ·unfold pl144_0
   refine Ud Oo ?_
   all_goals simp [pf144]
  ·unfold pl144_0
   simp only [List.length_cons] at h
   have hw:=Wi ((pre.length : Int) + 1)
   refine Ud hw ?_
   repeat intro hc
   all_goals exact ⟨(pre ++ [d],rest),by simp,by simp,by simp⟩

@[simp] theorem t257 (x_Ty : Int) (x_N : Int) (x_S : ByteArray)  : Gw TT 257 [.st [.ro false (di x_Ty),.ro false (di x_N),.ro false (.str x_S)]] = some (.st [.ro false (di x_Ty),.ro false (di x_N),.ro false (.str x_S)],[]):=by
 refine Ga pf257 pb257 ?_
 unfold pb257
 refine Ua Oo ?_
 all_goals simp [pf257]

@[simp] theorem t258 (k0 : Bool) (l : List XVal) (h : l.length ≤ 1048576) (hs : XVal.sms l) : Gw TT 258 [.one (.ro k0 (.sl 3 (l.map XVal.e)))] = some (.one (.own (.sl 3 (l.map XVal.e))),[]):=by
 refine Ga pf258 pb258 ?_
 unfold pb258
 refine Ud Oo ?_
 repeat intro hc
 ·refine wp_loopI (σ:=List XVal × List XVal) (fun s => [(0,AV.v k0 (D.sl 3 (List.map XVal.e l)),none),(3,AV.pl 3 0 [],some (Rt.vir [C.own (D.sl 3 (s.1.map XVal.e ++ List.replicate s.2.length [.int .i64 0,.int .i64 0,.str ⟨#[]⟩]))])),(4,AV.v false (di (s.1.length : Nat)),none)]) (fun s => l = s.1 ++ s.2) (fun s => s.2.length) ([],l) (by simp) rfl ?_
  rintro ⟨pre,rest⟩ h1
  simp only at h1
  subst h1
  simp only [List.length_append,List.length_cons] at h
  rcases rest with _ | ⟨⟨y_Ty,y_N,y_S⟩,rest⟩
  ·unfold pl258_0
   refine Ud Oo ?_
   all_goals simp [pf258]
  ·unfold pl258_0
   simp only [List.length_cons] at h
   have hw:=Wi ((pre.length : Int) + 1)
   have hd:=hs ⟨y_Ty,y_N,y_S⟩ (by simp)
   simp only [XVal.sm,and_assoc] at hd
   have hsm_y_S:=hd
   refine Ud (J3 @repS hw hsm_y_S) ?_
   repeat intro hc
   all_goals exact ⟨(pre ++ [⟨y_Ty,y_N,y_S⟩],rest),by simp,by simp,by simp⟩

@[simp] theorem t165 (x_Ty : Int) (x_N : Int) (x_S : ByteArray)  : Gw TT 165 [.st [.ro false (di x_Ty),.ro false (di x_N),.ro false (.str x_S)],.st [.ro false (di x_Ty),.ro false (di x_N),.ro false (.str x_S)]] = some (vb true,[]):=by
 refine Ga pf165 pb165 ?_
 unfold pb165
 refine Ua Oo ?_
 all_goals simp [pf165]

@[simp] theorem t166 (k0 k1 : Bool) (l : List XVal) (h : l.length ≤ 1048576) (hs : XVal.sms l) : Gw TT 166 [.one (.ro k0 (.sl 3 (l.map XVal.e))),.one (.ro k1 (.sl 3 (l.map XVal.e)))] = some (vb true,[]):=by
 refine Ga pf166 pb166 ?_
 unfold pb166
 refine Ud Oo ?_
 ·refine wp_loopI (σ:=List XVal × List XVal) (fun s => [(0,AV.v k0 (D.sl 3 (List.map XVal.e l)),none),(1,AV.v k1 (D.sl 3 (List.map XVal.e l)),none),(5,AV.v false (di (s.1.length : Nat)),none)]) (fun s => l = s.1 ++ s.2) (fun s => s.2.length) ([],l) (by simp) rfl ?_
  rintro ⟨pre,rest⟩ h1
  simp only at h1
  subst h1
  simp only [List.length_append,List.length_cons] at h
  rcases rest with _ | ⟨⟨y_Ty,y_N,y_S⟩,rest⟩
  ·unfold pl166_0
   refine Ud Oo ?_
   all_goals simp [pf166]
  ·unfold pl166_0
   simp only [List.length_cons] at h
   have hw:=Wi ((pre.length : Int) + 1)
   have hd:=hs ⟨y_Ty,y_N,y_S⟩ (by simp)
   simp only [XVal.sm,and_assoc] at hd
   have hsm_y_S:=hd
   refine Ud (J2 hw hsm_y_S) ?_
   repeat intro hc
   all_goals exact ⟨(pre ++ [⟨y_Ty,y_N,y_S⟩],rest),by simp,by simp,by simp⟩

@[simp] theorem t251 (k0 : Bool) (x_Id : Int) (x_L : List XVal) (hsm_x_L : x_L.length ≤ 1048576) (hsms_x_L : XVal.sms x_L) : Gw TT 251 [.st [.ro false (di x_Id),.ro k0 (.sl 3 (x_L.map XVal.e))]] = some (.st [.ro false (di x_Id),.own (.sl 3 (x_L.map XVal.e))],[]):=by
 refine Ga pf251 pb251 ?_
 unfold pb251
 refine Ua (J2 hsm_x_L hsms_x_L) ?_
 all_goals simp [pf251]

@[simp] theorem t252 (k0 : Bool) (l : List XRow) (h : l.length ≤ 1048576) (hs : XRow.sms l) : Gw TT 252 [.one (.ro k0 (.sl 2 (l.map XRow.e)))] = some (.one (.own (.sl 2 (l.map XRow.e))),[]):=by
 refine Ga pf252 pb252 ?_
 unfold pb252
 refine Ud Oo ?_
 repeat intro hc
 ·refine wp_loopI (σ:=List XRow × List XRow) (fun s => [(0,AV.v k0 (D.sl 2 (List.map XRow.e l)),none),(3,AV.pl 3 0 [],some (Rt.vir [C.own (D.sl 2 (s.1.map XRow.e ++ List.replicate s.2.length [.int .i64 0,.sl 3 []]))])),(4,AV.v false (di (s.1.length : Nat)),none)]) (fun s => l = s.1 ++ s.2) (fun s => s.2.length) ([],l) (by simp) rfl ?_
  rintro ⟨pre,rest⟩ h1
  simp only at h1
  subst h1
  simp only [List.length_append,List.length_cons] at h
  rcases rest with _ | ⟨⟨y_Id,y_L⟩,rest⟩
  ·unfold pl252_0
   refine Ud Oo ?_
   all_goals simp [pf252]
  ·unfold pl252_0
   simp only [List.length_cons] at h
   have hw:=Wi ((pre.length : Int) + 1)
   have hd:=hs ⟨y_Id,y_L⟩ (by simp)
   simp only [XRow.sm,and_assoc] at hd
   obtain ⟨hsm_y_L,hsms_y_L⟩:=hd
   refine Ud (J4 @repS hw hsm_y_L hsms_y_L) ?_
   repeat intro hc
   all_goals exact ⟨(pre ++ [⟨y_Id,y_L⟩],rest),by simp,by simp,by simp⟩

@[simp] theorem t159 (k0 k1 : Bool) (x_Id : Int) (x_L : List XVal) (hok_x_L : x_L.length ≤ 1048576) (hoks_x_L : XVal.sms x_L) : Gw TT 159 [.st [.ro false (di x_Id),.ro k0 (.sl 3 (x_L.map XVal.e))],.st [.ro false (di x_Id),.ro k1 (.sl 3 (x_L.map XVal.e))]] = some (vb true,[]):=by
 refine Ga pf159 pb159 ?_
 unfold pb159
 refine Ua (J2 hok_x_L hoks_x_L) ?_
 all_goals simp [pf159]

@[simp] theorem t160 (k0 k1 : Bool) (l : List XRow) (h : l.length ≤ 1048576) (hs : XRow.sms l) : Gw TT 160 [.one (.ro k0 (.sl 2 (l.map XRow.e))),.one (.ro k1 (.sl 2 (l.map XRow.e)))] = some (vb true,[]):=by
 refine Ga pf160 pb160 ?_
 unfold pb160
 refine Ud Oo ?_
 ·refine wp_loopI (σ:=List XRow × List XRow) (fun s => [(0,AV.v k0 (D.sl 2 (List.map XRow.e l)),none),(1,AV.v k1 (D.sl 2 (List.map XRow.e l)),none),(5,AV.v false (di (s.1.length : Nat)),none)]) (fun s => l = s.1 ++ s.2) (fun s => s.2.length) ([],l) (by simp) rfl ?_
  rintro ⟨pre,rest⟩ h1
  simp only at h1
  subst h1
  simp only [List.length_append,List.length_cons] at h
  rcases rest with _ | ⟨⟨y_Id,y_L⟩,rest⟩
  ·unfold pl160_0
   refine Ud Oo ?_
   all_goals simp [pf160]
  ·unfold pl160_0
   simp only [List.length_cons] at h
   have hw:=Wi ((pre.length : Int) + 1)
   have hd:=hs ⟨y_Id,y_L⟩ (by simp)
   simp only [XRow.sm,and_assoc] at hd
   obtain ⟨hsm_y_L,hsms_y_L⟩:=hd
   refine Ud (J3 hw hsm_y_L hsms_y_L) ?_
   repeat intro hc
   all_goals exact ⟨(pre ++ [⟨y_Id,y_L⟩],rest),by simp,by simp,by simp⟩

@[simp] theorem t239 (x_Buf : Int) (x_Gen : Int) (x_At : Int)  : Gw TT 239 [.st [.ro false (di x_Buf),.ro false (di x_Gen),.ro false (di x_At)]] = some (.st [.ro false (di x_Buf),.ro false (di x_Gen),.ro false (di x_At)],[]):=by
 refine Ga pf239 pb239 ?_
 unfold pb239
 refine Ua Oo ?_
 all_goals simp [pf239]

@[simp] theorem t240 (k0 : Bool) (l : List XDead) (h : l.length ≤ 1048576)  : Gw TT 240 [.one (.ro k0 (.sl 3 (l.map XDead.e)))] = some (.one (.own (.sl 3 (l.map XDead.e))),[]):=by
 refine Ga pf240 pb240 ?_
 unfold pb240
 refine Ud Oo ?_
 repeat intro hc
 ·refine wp_loopI (σ:=List XDead × List XDead) (fun s => [(0,AV.v k0 (D.sl 3 (List.map XDead.e l)),none),(3,AV.pl 3 0 [],some (Rt.vir [C.own (D.sl 3 (s.1.map XDead.e ++ List.replicate s.2.length [.int .i64 0,.int .i64 0,.int .i64 0]))])),(4,AV.v false (di (s.1.length : Nat)),none)]) (fun s => l = s.1 ++ s.2) (fun s => s.2.length) ([],l) (by simp) rfl ?_
  rintro ⟨pre,rest⟩ h1
  simp only at h1
  subst h1
  simp only [List.length_append,List.length_cons] at h
  rcases rest with _ | ⟨⟨y_Buf,y_Gen,y_At⟩,rest⟩
  ·unfold pl240_0
   refine Ud Oo ?_
   all_goals simp [pf240]
  ·unfold pl240_0
   simp only [List.length_cons] at h
   have hw:=Wi ((pre.length : Int) + 1)
   refine Ud (J2 @repS hw) ?_
   repeat intro hc
   all_goals exact ⟨(pre ++ [⟨y_Buf,y_Gen,y_At⟩],rest),by simp,by simp,by simp⟩

@[simp] theorem t147 (x_Buf : Int) (x_Gen : Int) (x_At : Int)  : Gw TT 147 [.st [.ro false (di x_Buf),.ro false (di x_Gen),.ro false (di x_At)],.st [.ro false (di x_Buf),.ro false (di x_Gen),.ro false (di x_At)]] = some (vb true,[]):=by
 refine Ga pf147 pb147 ?_
 unfold pb147
 refine Ua Oo ?_
 all_goals simp [pf147]

@[simp] theorem t148 (k0 k1 : Bool) (l : List XDead) (h : l.length ≤ 1048576)  : Gw TT 148 [.one (.ro k0 (.sl 3 (l.map XDead.e))),.one (.ro k1 (.sl 3 (l.map XDead.e)))] = some (vb true,[]):=by
 refine Ga pf148 pb148 ?_
 unfold pb148
 refine Ud Oo ?_
 ·refine wp_loopI (σ:=List XDead × List XDead) (fun s => [(0,AV.v k0 (D.sl 3 (List.map XDead.e l)),none),(1,AV.v k1 (D.sl 3 (List.map XDead.e l)),none),(5,AV.v false (di (s.1.length : Nat)),none)]) (fun s => l = s.1 ++ s.2) (fun s => s.2.length) ([],l) (by simp) rfl ?_
  rintro ⟨pre,rest⟩ h1
  simp only at h1
  subst h1
  simp only [List.length_append,List.length_cons] at h
  rcases rest with _ | ⟨⟨y_Buf,y_Gen,y_At⟩,rest⟩
  ·unfold pl148_0
   refine Ud Oo ?_
   all_goals simp [pf148]
  ·unfold pl148_0
   simp only [List.length_cons] at h
   have hw:=Wi ((pre.length : Int) + 1)
   refine Ud hw ?_
   repeat intro hc
   all_goals exact ⟨(pre ++ [⟨y_Buf,y_Gen,y_At⟩],rest),by simp,by simp,by simp⟩

@[simp] theorem t248 (x_Buf : Int) (x_Gen : Int) (x_Kind : Int) (x_First : Int) (x_Many : Int)  : Gw TT 248 [.st [.ro false (di x_Buf),.ro false (di x_Gen),.ro false (di x_Kind),.ro false (di x_First),.ro false (di x_Many)]] = some (.st [.ro false (di x_Buf),.ro false (di x_Gen),.ro false (di x_Kind),.ro false (di x_First),.ro false (di x_Many)],[]):=by
 refine Ga pf248 pb248 ?_
 unfold pb248
 refine Ua Oo ?_
 all_goals simp [pf248]

@[simp] theorem t249 (k0 : Bool) (l : List XRef) (h : l.length ≤ 1048576)  : Gw TT 249 [.one (.ro k0 (.sl 5 (l.map XRef.e)))] = some (.one (.own (.sl 5 (l.map XRef.e))),[]):=by
 refine Ga pf249 pb249 ?_
 unfold pb249
 refine Ud Oo ?_
 repeat intro hc
 ·refine wp_loopI (σ:=List XRef × List XRef) (fun s => [(0,AV.v k0 (D.sl 5 (List.map XRef.e l)),none),(3,AV.pl 3 0 [],some (Rt.vir [C.own (D.sl 5 (s.1.map XRef.e ++ List.replicate s.2.length [.int .i64 0,.int .i64 0,.int .i64 0,.int .i64 0,.int .i64 0]))])),(4,AV.v false (di (s.1.length : Nat)),none)]) (fun s => l = s.1 ++ s.2) (fun s => s.2.length) ([],l) (by simp) rfl ?_
  rintro ⟨pre,rest⟩ h1
  simp only at h1
  subst h1
  simp only [List.length_append,List.length_cons] at h
  rcases rest with _ | ⟨⟨y_Buf,y_Gen,y_Kind,y_First,y_Many⟩,rest⟩
  ·unfold pl249_0
   refine Ud Oo ?_
   all_goals simp [pf249]
  ·unfold pl249_0
   simp only [List.length_cons] at h
   have hw:=Wi ((pre.length : Int) + 1)
   refine Ud (J2 @repS hw) ?_
   repeat intro hc
   all_goals exact ⟨(pre ++ [⟨y_Buf,y_Gen,y_Kind,y_First,y_Many⟩],rest),by simp,by simp,by simp⟩

@[simp] theorem t156 (x_Buf : Int) (x_Gen : Int) (x_Kind : Int) (x_First : Int) (x_Many : Int)  : Gw TT 156 [.st [.ro false (di x_Buf),.ro false (di x_Gen),.ro false (di x_Kind),.ro false (di x_First),.ro false (di x_Many)],.st [.ro false (di x_Buf),.ro false (di x_Gen),.ro false (di x_Kind),.ro false (di x_First),.ro false (di x_Many)]] = some (vb true,[]):=by
 refine Ga pf156 pb156 ?_
 unfold pb156
 refine Ua Oo ?_
 all_goals simp [pf156]

@[simp] theorem t157 (k0 k1 : Bool) (l : List XRef) (h : l.length ≤ 1048576)  : Gw TT 157 [.one (.ro k0 (.sl 5 (l.map XRef.e))),.one (.ro k1 (.sl 5 (l.map XRef.e)))] = some (vb true,[]):=by
 refine Ga pf157 pb157 ?_
 unfold pb157
 refine Ud Oo ?_
 ·refine wp_loopI (σ:=List XRef × List XRef) (fun s => [(0,AV.v k0 (D.sl 5 (List.map XRef.e l)),none),(1,AV.v k1 (D.sl 5 (List.map XRef.e l)),none),(5,AV.v false (di (s.1.length : Nat)),none)]) (fun s => l = s.1 ++ s.2) (fun s => s.2.length) ([],l) (by simp) rfl ?_
  rintro ⟨pre,rest⟩ h1
  simp only at h1
  subst h1
  simp only [List.length_append,List.length_cons] at h
  rcases rest with _ | ⟨⟨y_Buf,y_Gen,y_Kind,y_First,y_Many⟩,rest⟩
  ·unfold pl157_0
   refine Ud Oo ?_
   all_goals simp [pf157]
  ·unfold pl157_0
   simp only [List.length_cons] at h
   have hw:=Wi ((pre.length : Int) + 1)
   refine Ud hw ?_
   repeat intro hc
   all_goals exact ⟨(pre ++ [⟨y_Buf,y_Gen,y_Kind,y_First,y_Many⟩],rest),by simp,by simp,by simp⟩

@[simp] theorem t243 (k0 : Bool) (x_Ver : Int) (x_L : List XRef) (hsm_x_L : x_L.length ≤ 1048576) : Gw TT 243 [.st [.ro false (di x_Ver),.ro k0 (.sl 5 (x_L.map XRef.e))]] = some (.st [.ro false (di x_Ver),.own (.sl 5 (x_L.map XRef.e))],[]):=by
 refine Ga pf243 pb243 ?_
 unfold pb243
 refine Ua hsm_x_L ?_
 all_goals simp [pf243]

@[simp] theorem t151 (k0 k1 : Bool) (x_Ver : Int) (x_L : List XRef) (hok_x_L : x_L.length ≤ 1048576) : Gw TT 151 [.st [.ro false (di x_Ver),.ro k0 (.sl 5 (x_L.map XRef.e))],.st [.ro false (di x_Ver),.ro k1 (.sl 5 (x_L.map XRef.e))]] = some (vb true,[]):=by
 refine Ga pf151 pb151 ?_
 unfold pb151
 refine Ua hok_x_L ?_
 all_goals simp [pf151]

@[simp] theorem t253 (k0 : Bool) (x_Ins : Int) (x_L : List XVal) (hsm_x_L : x_L.length ≤ 1048576) (hsms_x_L : XVal.sms x_L) : Gw TT 253 [.st [.ro false (di x_Ins),.ro k0 (.sl 3 (x_L.map XVal.e))]] = some (.st [.ro false (di x_Ins),.own (.sl 3 (x_L.map XVal.e))],[]):=by
 refine Ga pf253 pb253 ?_
 unfold pb253
 refine Ua (J2 hsm_x_L hsms_x_L) ?_
 all_goals simp [pf253]

@[simp] theorem t254 (k0 : Bool) (l : List XSlot) (h : l.length ≤ 1048576) (hs : XSlot.sms l) : Gw TT 254 [.one (.ro k0 (.sl 2 (l.map XSlot.e)))] = some (.one (.own (.sl 2 (l.map XSlot.e))),[]):=by
 refine Ga pf254 pb254 ?_
 unfold pb254
 refine Ud Oo ?_
 repeat intro hc
 ·refine wp_loopI (σ:=List XSlot × List XSlot) (fun s => [(0,AV.v k0 (D.sl 2 (List.map XSlot.e l)),none),(3,AV.pl 3 0 [],some (Rt.vir [C.own (D.sl 2 (s.1.map XSlot.e ++ List.replicate s.2.length [.int .i64 0,.sl 3 []]))])),(4,AV.v false (di (s.1.length : Nat)),none)]) (fun s => l = s.1 ++ s.2) (fun s => s.2.length) ([],l) (by simp) rfl ?_
  rintro ⟨pre,rest⟩ h1
  simp only at h1
  subst h1
  simp only [List.length_append,List.length_cons] at h
  rcases rest with _ | ⟨⟨y_Ins,y_L⟩,rest⟩
  ·unfold pl254_0
   refine Ud Oo ?_
   all_goals simp [pf254]
  ·unfold pl254_0
   simp only [List.length_cons] at h
   have hw:=Wi ((pre.length : Int) + 1)
   have hd:=hs ⟨y_Ins,y_L⟩ (by simp)
   simp only [XSlot.sm,and_assoc] at hd
   obtain ⟨hsm_y_L,hsms_y_L⟩:=hd
   refine Ud (J4 @repS hw hsm_y_L hsms_y_L) ?_
   repeat intro hc
   all_goals exact ⟨(pre ++ [⟨y_Ins,y_L⟩],rest),by simp,by simp,by simp⟩

@[simp] theorem t161 (k0 k1 : Bool) (x_Ins : Int) (x_L : List XVal) (hok_x_L : x_L.length ≤ 1048576) (hoks_x_L : XVal.sms x_L) : Gw TT 161 [.st [.ro false (di x_Ins),.ro k0 (.sl 3 (x_L.map XVal.e))],.st [.ro false (di x_Ins),.ro k1 (.sl 3 (x_L.map XVal.e))]] = some (vb true,[]):=by
 refine Ga pf161 pb161 ?_
 unfold pb161
 refine Ua (J2 hok_x_L hoks_x_L) ?_
 all_goals simp [pf161]

@[simp] theorem t162 (k0 k1 : Bool) (l : List XSlot) (h : l.length ≤ 1048576) (hs : XSlot.sms l) : Gw TT 162 [.one (.ro k0 (.sl 2 (l.map XSlot.e))),.one (.ro k1 (.sl 2 (l.map XSlot.e)))] = some (vb true,[]):=by
 refine Ga pf162 pb162 ?_
 unfold pb162
 refine Ud Oo ?_
 ·refine wp_loopI (σ:=List XSlot × List XSlot) (fun s => [(0,AV.v k0 (D.sl 2 (List.map XSlot.e l)),none),(1,AV.v k1 (D.sl 2 (List.map XSlot.e l)),none),(5,AV.v false (di (s.1.length : Nat)),none)]) (fun s => l = s.1 ++ s.2) (fun s => s.2.length) ([],l) (by simp) rfl ?_
  rintro ⟨pre,rest⟩ h1
  simp only at h1
  subst h1
  simp only [List.length_append,List.length_cons] at h
  rcases rest with _ | ⟨⟨y_Ins,y_L⟩,rest⟩
  ·unfold pl162_0
   refine Ud Oo ?_
   all_goals simp [pf162]
  ·unfold pl162_0
   simp only [List.length_cons] at h
   have hw:=Wi ((pre.length : Int) + 1)
   have hd:=hs ⟨y_Ins,y_L⟩ (by simp)
   simp only [XSlot.sm,and_assoc] at hd
   obtain ⟨hsm_y_L,hsms_y_L⟩:=hd
   refine Ud (J3 hw hsm_y_L hsms_y_L) ?_
   repeat intro hc
   all_goals exact ⟨(pre ++ [⟨y_Ins,y_L⟩],rest),by simp,by simp,by simp⟩

@[simp] theorem t237 (k0 : Bool) (x_Next : Int) (x_L : List XSlot) (hsm_x_L : x_L.length ≤ 1048576) (hsms_x_L : XSlot.sms x_L) : Gw TT 237 [.st [.ro false (di x_Next),.ro k0 (.sl 2 (x_L.map XSlot.e))]] = some (.st [.ro false (di x_Next),.own (.sl 2 (x_L.map XSlot.e))],[]):=by
 refine Ga pf237 pb237 ?_
 unfold pb237
 refine Ua (J2 hsm_x_L hsms_x_L) ?_
 all_goals simp [pf237]

@[simp] theorem t145 (k0 k1 : Bool) (x_Next : Int) (x_L : List XSlot) (hok_x_L : x_L.length ≤ 1048576) (hoks_x_L : XSlot.sms x_L) : Gw TT 145 [.st [.ro false (di x_Next),.ro k0 (.sl 2 (x_L.map XSlot.e))],.st [.ro false (di x_Next),.ro k1 (.sl 2 (x_L.map XSlot.e))]] = some (vb true,[]):=by
 refine Ga pf145 pb145 ?_
 unfold pb145
 refine Ua (J2 hok_x_L hoks_x_L) ?_
 all_goals simp [pf145]

@[simp] theorem t234 (k0 : Bool) (x_Gen : Int) (x_Kind : Int) (x_C_Next : Int) (x_C_L : List XSlot) (x_G : List Int) (hsm_x_C_L : x_C_L.length ≤ 1048576) (hsms_x_C_L : XSlot.sms x_C_L) (hsm_x_G : x_G.length ≤ 1048576) : Gw TT 234 [.st [.ro false (di x_Gen),.ro false (di x_Kind),.ro false (di x_C_Next),.ro k0 (.sl 2 (x_C_L.map XSlot.e)),.ro k0 (.sl 1 (x_G.map eb))]] = some (.st [.ro false (di x_Gen),.ro false (di x_Kind),.ro false (di x_C_Next),.own (.sl 2 (x_C_L.map XSlot.e)),.own (.sl 1 (x_G.map eb))],[]):=by
 refine Ga pf234 pb234 ?_
 unfold pb234
 refine Ua (J3 hsm_x_C_L hsms_x_C_L hsm_x_G) ?_
 all_goals simp [pf234]

@[simp] theorem t235 (k0 : Bool) (l : List XBuf) (h : l.length ≤ 1048576) (hs : XBuf.sms l) : Gw TT 235 [.one (.ro k0 (.sl 5 (l.map XBuf.e)))] = some (.one (.own (.sl 5 (l.map XBuf.e))),[]):=by
 refine Ga pf235 pb235 ?_
 unfold pb235
 refine Ud Oo ?_
 repeat intro hc
 ·refine wp_loopI (σ:=List XBuf × List XBuf) (fun s => [(0,AV.v k0 (D.sl 5 (List.map XBuf.e l)),none),(3,AV.pl 3 0 [],some (Rt.vir [C.own (D.sl 5 (s.1.map XBuf.e ++ List.replicate s.2.length [.int .i64 0,.int .i64 0,.int .i64 0,.sl 2 [],.sl 1 []]))])),(4,AV.v false (di (s.1.length : Nat)),none)]) (fun s => l = s.1 ++ s.2) (fun s => s.2.length) ([],l) (by simp) rfl ?_
  rintro ⟨pre,rest⟩ h1
  simp only at h1
  subst h1
  simp only [List.length_append,List.length_cons] at h
  rcases rest with _ | ⟨⟨y_Gen,y_Kind,⟨y_C_Next,y_C_L⟩,y_G⟩,rest⟩
  ·unfold pl235_0
   refine Ud Oo ?_
   all_goals simp [pf235]
  ·unfold pl235_0
   simp only [List.length_cons] at h
   have hw:=Wi ((pre.length : Int) + 1)
   have hd:=hs ⟨y_Gen,y_Kind,⟨y_C_Next,y_C_L⟩,y_G⟩ (by simp)
   simp only [XBuf.sm,XChunk.sm,and_assoc] at hd
   obtain ⟨hsm_y_C_L,hsms_y_C_L,hsm_y_G⟩:=hd
   refine Ud (J5 @repS hw hsm_y_C_L hsms_y_C_L hsm_y_G) ?_
   repeat intro hc
   all_goals exact ⟨(pre ++ [⟨y_Gen,y_Kind,⟨y_C_Next,y_C_L⟩,y_G⟩],rest),by simp,by simp,by simp⟩

@[simp] theorem t142 (k0 k1 : Bool) (x_Gen : Int) (x_Kind : Int) (x_C_Next : Int) (x_C_L : List XSlot) (x_G : List Int) (hok_x_C_L : x_C_L.length ≤ 1048576) (hoks_x_C_L : XSlot.sms x_C_L) (hok_x_G : x_G.length ≤ 1048576) : Gw TT 142 [.st [.ro false (di x_Gen),.ro false (di x_Kind),.ro false (di x_C_Next),.ro k0 (.sl 2 (x_C_L.map XSlot.e)),.ro k0 (.sl 1 (x_G.map eb))],.st [.ro false (di x_Gen),.ro false (di x_Kind),.ro false (di x_C_Next),.ro k1 (.sl 2 (x_C_L.map XSlot.e)),.ro k1 (.sl 1 (x_G.map eb))]] = some (vb true,[]):=by
 refine Ga pf142 pb142 ?_
 unfold pb142
 refine Ua (J3 hok_x_C_L hoks_x_C_L hok_x_G) ?_
 all_goals simp [pf142]

@[simp] theorem t143 (k0 k1 : Bool) (l : List XBuf) (h : l.length ≤ 1048576) (hs : XBuf.sms l) : Gw TT 143 [.one (.ro k0 (.sl 5 (l.map XBuf.e))),.one (.ro k1 (.sl 5 (l.map XBuf.e)))] = some (vb true,[]):=by
 refine Ga pf143 pb143 ?_
 unfold pb143
 refine Ud Oo ?_
 ·refine wp_loopI (σ:=List XBuf × List XBuf) (fun s => [(0,AV.v k0 (D.sl 5 (List.map XBuf.e l)),none),(1,AV.v k1 (D.sl 5 (List.map XBuf.e l)),none),(5,AV.v false (di (s.1.length : Nat)),none)]) (fun s => l = s.1 ++ s.2) (fun s => s.2.length) ([],l) (by simp) rfl ?_
  rintro ⟨pre,rest⟩ h1
  simp only at h1
  subst h1
  simp only [List.length_append,List.length_cons] at h
  rcases rest with _ | ⟨⟨y_Gen,y_Kind,⟨y_C_Next,y_C_L⟩,y_G⟩,rest⟩
  ·unfold pl143_0
   refine Ud Oo ?_
   all_goals simp [pf143]
  ·unfold pl143_0
   simp only [List.length_cons] at h
   have hw:=Wi ((pre.length : Int) + 1)
   have hd:=hs ⟨y_Gen,y_Kind,⟨y_C_Next,y_C_L⟩,y_G⟩ (by simp)
   simp only [XBuf.sm,XChunk.sm,and_assoc] at hd
   obtain ⟨hsm_y_C_L,hsms_y_C_L,hsm_y_G⟩:=hd
   refine Ud (J4 hw hsm_y_C_L hsms_y_C_L hsm_y_G) ?_
   repeat intro hc
   all_goals exact ⟨(pre ++ [⟨y_Gen,y_Kind,⟨y_C_Next,y_C_L⟩,y_G⟩],rest),by simp,by simp,by simp⟩

@[simp] theorem t238 (k0 : Bool) (x_Cols : List Int) (x_Slots : Int) (x_Bufs : Int) (hsm_x_Cols : x_Cols.length ≤ 1048576) : Gw TT 238 [.st [.ro k0 (.sl 1 (x_Cols.map ei)),.ro false (di x_Slots),.ro false (di x_Bufs)]] = some (.st [.own (.sl 1 (x_Cols.map ei)),.ro false (di x_Slots),.ro false (di x_Bufs)],[]):=by
 refine Ga pf238 pb238 ?_
 unfold pb238
 refine Ua hsm_x_Cols ?_
 all_goals simp [pf238]

@[simp] theorem t146 (k0 k1 : Bool) (x_Cols : List Int) (x_Slots : Int) (x_Bufs : Int) (hok_x_Cols : x_Cols.length ≤ 1048576) : Gw TT 146 [.st [.ro k0 (.sl 1 (x_Cols.map ei)),.ro false (di x_Slots),.ro false (di x_Bufs)],.st [.ro k1 (.sl 1 (x_Cols.map ei)),.ro false (di x_Slots),.ro false (di x_Bufs)]] = some (vb true,[]):=by
 refine Ga pf146 pb146 ?_
 unfold pb146
 refine Ua hok_x_Cols ?_
 all_goals simp [pf146]

def ToPred (x : XPred) : Prop:=∀ k0 : Bool,x.sm → Gw TT 245 [.st [.ro false (di x.Kind),.ro false (di x.Col),.ro false (di x.Op),.ro false (di x.V.Ty),.ro false (di x.V.N),.ro false (.str x.V.S),.ro k0 (.sl 7 (x.L.map XPred.e))]] = some (.st [.ro false (di x.Kind),.ro false (di x.Col),.ro false (di x.Op),.ro false (di x.V.Ty),.ro false (di x.V.N),.ro false (.str x.V.S),.own (.sl 7 (x.L.map XPred.e))],[])
def ToPreds (l : List XPred) : Prop:=∀ k0 : Bool,l.length ≤ 1048576 → XPred.sms l → Gw TT 246 [.one (.ro k0 (.sl 7 (l.map XPred.e)))] = some (.one (.own (.sl 7 (l.map XPred.e))),[])

theorem ToPreds_of (l : List XPred) (IH : ∀ y ∈ l,ToPred y) : ToPreds l:=by
 intro k0 h hs
 refine Ga pf246 pb246 ?_
 unfold pb246
 refine Ud Oo ?_
 repeat intro hc
 ·refine wp_loopI (σ:=List XPred × List XPred) (fun s => [(0,AV.v k0 (D.sl 7 (List.map XPred.e l)),none),(3,AV.pl 3 0 [],some (Rt.vir [C.own (D.sl 7 (s.1.map XPred.e ++ List.replicate s.2.length [.int .i64 0,.int .i64 0,.int .i64 0,.int .i64 0,.int .i64 0,.str ⟨#[]⟩,.sl 7 []]))])),(4,AV.v false (di (s.1.length : Nat)),none)]) (fun s => l = s.1 ++ s.2) (fun s => s.2.length) ([],l) (by simp) rfl ?_
  rintro ⟨pre,rest⟩ h1
  simp only at h1
  subst h1
  simp only [List.length_append,List.length_cons] at h
  rcases rest with _ | ⟨⟨y_Kind,y_Col,y_Op,⟨y_V_Ty,y_V_N,y_V_S⟩,y_L⟩,rest⟩
  ·unfold pl246_0
   refine Ud Oo ?_
   all_goals simp [pf246]
  ·unfold pl246_0
   simp only [List.length_cons] at h
   have hw:=Wi ((pre.length : Int) + 1)
   have hd:=XPred.sms_mem hs ⟨y_Kind,y_Col,y_Op,⟨y_V_Ty,y_V_N,y_V_S⟩,y_L⟩ (by simp)
   simp only [XPred.sm_eq,XVal.sm,and_assoc] at hd
   obtain ⟨hsm_y_V_S,hsm_y_L,hsms_y_L⟩:=hd
   have ih:=IH ⟨y_Kind,y_Col,y_Op,⟨y_V_Ty,y_V_N,y_V_S⟩,y_L⟩ (by simp) k0 (XPred.sms_mem hs ⟨y_Kind,y_Col,y_Op,⟨y_V_Ty,y_V_N,y_V_S⟩,y_L⟩ (by simp))
   simp only at ih
   refine Ud (J6 @repS hw ih hsm_y_V_S hsm_y_L hsms_y_L) ?_
   repeat intro hc
   all_goals exact ⟨(pre ++ [⟨y_Kind,y_Col,y_Op,⟨y_V_Ty,y_V_N,y_V_S⟩,y_L⟩],rest),by simp,by simp,by simp⟩

theorem ToPred_of (x : XPred) (IH : ToPreds x.L) : ToPred x:=by
 intro k0 hx
 obtain ⟨x_Kind,x_Col,x_Op,⟨x_V_Ty,x_V_N,x_V_S⟩,x_L⟩:=x
 simp only [XPred.sm_eq,XVal.sm,and_assoc] at hx
 obtain ⟨hsm_x_V_S,hsm_x_L,hsms_x_L⟩:=hx
 have ih:=IH k0 hsm_x_L hsms_x_L
 simp only at ih
 refine Ga pf245 pb245 ?_
 unfold pb245
 refine Ua ih ?_
 all_goals simp [pf245]

theorem ToPred_all (x : XPred) : ToPred x :=
 ToPred_of x (ToPreds_of x.L fun y hy => ToPred_all y)
termination_by SizeOf.sizeOf x
decreasing_by
 have h1:=List.sizeOf_lt_of_mem hy
 have h2 : SizeOf.sizeOf x.L < SizeOf.sizeOf x:=by cases x; simp; omega
 omega

@[simp] theorem t245 (k0 : Bool) (x_Kind : Int) (x_Col : Int) (x_Op : Int) (x_V_Ty : Int) (x_V_N : Int) (x_V_S : ByteArray) (x_L : List XPred) (hsm_x_L : x_L.length ≤ 1048576) (hsms_x_L : XPred.sms x_L) (hv : x_V_S.size ≤ 1048576) : Gw TT 245 [.st [.ro false (di x_Kind),.ro false (di x_Col),.ro false (di x_Op),.ro false (di x_V_Ty),.ro false (di x_V_N),.ro false (.str x_V_S),.ro k0 (.sl 7 (x_L.map XPred.e))]] = some (.st [.ro false (di x_Kind),.ro false (di x_Col),.ro false (di x_Op),.ro false (di x_V_Ty),.ro false (di x_V_N),.ro false (.str x_V_S),.own (.sl 7 (x_L.map XPred.e))],[]):=ToPred_all ⟨x_Kind,x_Col,x_Op,⟨x_V_Ty,x_V_N,x_V_S⟩,x_L⟩ k0 (by simp only [XPred.sm_eq,XVal.sm,and_assoc]; exact ⟨hv,hsm_x_L,hsms_x_L⟩)

@[simp] theorem t246 (k0 : Bool) (l : List XPred) (h : l.length ≤ 1048576) (hs : XPred.sms l) : Gw TT 246 [.one (.ro k0 (.sl 7 (l.map XPred.e)))] = some (.one (.own (.sl 7 (l.map XPred.e))),[]):=ToPreds_of l (fun y _ => ToPred_all y) k0 h hs

def EqPred (x : XPred) : Prop:=∀ k0 k1 : Bool,x.sm → Gw TT 153 [.st [.ro false (di x.Kind),.ro false (di x.Col),.ro false (di x.Op),.ro false (di x.V.Ty),.ro false (di x.V.N),.ro false (.str x.V.S),.ro k0 (.sl 7 (x.L.map XPred.e))],.st [.ro false (di x.Kind),.ro false (di x.Col),.ro false (di x.Op),.ro false (di x.V.Ty),.ro false (di x.V.N),.ro false (.str x.V.S),.ro k1 (.sl 7 (x.L.map XPred.e))]] = some (vb true,[])
def EqPreds (l : List XPred) : Prop:=∀ k0 k1 : Bool,l.length ≤ 1048576 → XPred.sms l → Gw TT 154 [.one (.ro k0 (.sl 7 (l.map XPred.e))),.one (.ro k1 (.sl 7 (l.map XPred.e)))] = some (vb true,[])

theorem EqPreds_of (l : List XPred) (IH : ∀ y ∈ l,EqPred y) : EqPreds l:=by
 intro k0 k1 h hs
 refine Ga pf154 pb154 ?_
 unfold pb154
 refine Ud Oo ?_
 ·refine wp_loopI (σ:=List XPred × List XPred) (fun s => [(0,AV.v k0 (D.sl 7 (List.map XPred.e l)),none),(1,AV.v k1 (D.sl 7 (List.map XPred.e l)),none),(5,AV.v false (di (s.1.length : Nat)),none)]) (fun s => l = s.1 ++ s.2) (fun s => s.2.length) ([],l) (by simp) rfl ?_
  rintro ⟨pre,rest⟩ h1
  simp only at h1
  subst h1
  simp only [List.length_append,List.length_cons] at h
  rcases rest with _ | ⟨⟨y_Kind,y_Col,y_Op,⟨y_V_Ty,y_V_N,y_V_S⟩,y_L⟩,rest⟩
  ·unfold pl154_0
   refine Ud Oo ?_
   all_goals simp [pf154]
  ·unfold pl154_0
   simp only [List.length_cons] at h
   have hw:=Wi ((pre.length : Int) + 1)
   have hd:=XPred.sms_mem hs ⟨y_Kind,y_Col,y_Op,⟨y_V_Ty,y_V_N,y_V_S⟩,y_L⟩ (by simp)
   simp only [XPred.sm_eq,XVal.sm,and_assoc] at hd
   obtain ⟨hsm_y_V_S,hsm_y_L,hsms_y_L⟩:=hd
   have ih:=IH ⟨y_Kind,y_Col,y_Op,⟨y_V_Ty,y_V_N,y_V_S⟩,y_L⟩ (by simp) k0 k1 (XPred.sms_mem hs ⟨y_Kind,y_Col,y_Op,⟨y_V_Ty,y_V_N,y_V_S⟩,y_L⟩ (by simp))
   simp only at ih
   refine Ud (J5 hw ih hsm_y_V_S hsm_y_L hsms_y_L) ?_
   repeat intro hc
   all_goals exact ⟨(pre ++ [⟨y_Kind,y_Col,y_Op,⟨y_V_Ty,y_V_N,y_V_S⟩,y_L⟩],rest),by simp,by simp,by simp⟩

theorem EqPred_of (x : XPred) (IH : EqPreds x.L) : EqPred x:=by
 intro k0 k1 hx
 obtain ⟨x_Kind,x_Col,x_Op,⟨x_V_Ty,x_V_N,x_V_S⟩,x_L⟩:=x
 simp only [XPred.sm_eq,XVal.sm,and_assoc] at hx
 obtain ⟨hsm_x_V_S,hsm_x_L,hsms_x_L⟩:=hx
 have ih:=IH k0 k1 hsm_x_L hsms_x_L
 simp only at ih
 refine Ga pf153 pb153 ?_
 unfold pb153
 refine Ua ih ?_
 all_goals simp [pf153]

theorem EqPred_all (x : XPred) : EqPred x :=
 EqPred_of x (EqPreds_of x.L fun y hy => EqPred_all y)
termination_by SizeOf.sizeOf x
decreasing_by
 have h1:=List.sizeOf_lt_of_mem hy
 have h2 : SizeOf.sizeOf x.L < SizeOf.sizeOf x:=by cases x; simp; omega
 omega

@[simp] theorem t153 (k0 k1 : Bool) (x_Kind : Int) (x_Col : Int) (x_Op : Int) (x_V_Ty : Int) (x_V_N : Int) (x_V_S : ByteArray) (x_L : List XPred) (hok_x_L : x_L.length ≤ 1048576) (hoks_x_L : XPred.sms x_L) (hv : x_V_S.size ≤ 1048576) : Gw TT 153 [.st [.ro false (di x_Kind),.ro false (di x_Col),.ro false (di x_Op),.ro false (di x_V_Ty),.ro false (di x_V_N),.ro false (.str x_V_S),.ro k0 (.sl 7 (x_L.map XPred.e))],.st [.ro false (di x_Kind),.ro false (di x_Col),.ro false (di x_Op),.ro false (di x_V_Ty),.ro false (di x_V_N),.ro false (.str x_V_S),.ro k1 (.sl 7 (x_L.map XPred.e))]] = some (vb true,[]):=EqPred_all ⟨x_Kind,x_Col,x_Op,⟨x_V_Ty,x_V_N,x_V_S⟩,x_L⟩ k0 k1 (by simp only [XPred.sm_eq,XVal.sm,and_assoc]; exact ⟨hv,hok_x_L,hoks_x_L⟩)

@[simp] theorem t154 (k0 k1 : Bool) (l : List XPred) (h : l.length ≤ 1048576) (hs : XPred.sms l) : Gw TT 154 [.one (.ro k0 (.sl 7 (l.map XPred.e))),.one (.ro k1 (.sl 7 (l.map XPred.e)))] = some (vb true,[]):=EqPreds_of l (fun y _ => EqPred_all y) k0 k1 h hs

@[simp] theorem t247 (k0 : Bool) (x_Kind : Int) (x_P_Kind : Int) (x_P_Col : Int) (x_P_Op : Int) (x_P_V_Ty : Int) (x_P_V_N : Int) (x_P_V_S : ByteArray) (x_P_L : List XPred) (x_Col : Int) (x_Out : List Int) (hsm_x_P_V_S : x_P_V_S.size ≤ 1048576) (hsm_x_P_L : x_P_L.length ≤ 1048576) (hsms_x_P_L : XPred.sms x_P_L) (hsm_x_Out : x_Out.length ≤ 1048576) : Gw TT 247 [.st [.ro false (di x_Kind),.ro false (di x_P_Kind),.ro false (di x_P_Col),.ro false (di x_P_Op),.ro false (di x_P_V_Ty),.ro false (di x_P_V_N),.ro false (.str x_P_V_S),.ro k0 (.sl 7 (x_P_L.map XPred.e)),.ro false (di x_Col),.ro k0 (.sl 1 (x_Out.map ei))]] = some (.st [.ro false (di x_Kind),.ro false (di x_P_Kind),.ro false (di x_P_Col),.ro false (di x_P_Op),.ro false (di x_P_V_Ty),.ro false (di x_P_V_N),.ro false (.str x_P_V_S),.own (.sl 7 (x_P_L.map XPred.e)),.ro false (di x_Col),.own (.sl 1 (x_Out.map ei))],[]):=by
 refine Ga pf247 pb247 ?_
 unfold pb247
 refine Ua (J4 hsm_x_P_V_S hsm_x_P_L hsms_x_P_L hsm_x_Out) ?_
 all_goals simp [pf247]

@[simp] theorem t155 (k0 k1 : Bool) (x_Kind : Int) (x_P_Kind : Int) (x_P_Col : Int) (x_P_Op : Int) (x_P_V_Ty : Int) (x_P_V_N : Int) (x_P_V_S : ByteArray) (x_P_L : List XPred) (x_Col : Int) (x_Out : List Int) (hok_x_P_V_S : x_P_V_S.size ≤ 1048576) (hok_x_P_L : x_P_L.length ≤ 1048576) (hoks_x_P_L : XPred.sms x_P_L) (hok_x_Out : x_Out.length ≤ 1048576) : Gw TT 155 [.st [.ro false (di x_Kind),.ro false (di x_P_Kind),.ro false (di x_P_Col),.ro false (di x_P_Op),.ro false (di x_P_V_Ty),.ro false (di x_P_V_N),.ro false (.str x_P_V_S),.ro k0 (.sl 7 (x_P_L.map XPred.e)),.ro false (di x_Col),.ro k0 (.sl 1 (x_Out.map ei))],.st [.ro false (di x_Kind),.ro false (di x_P_Kind),.ro false (di x_P_Col),.ro false (di x_P_Op),.ro false (di x_P_V_Ty),.ro false (di x_P_V_N),.ro false (.str x_P_V_S),.ro k1 (.sl 7 (x_P_L.map XPred.e)),.ro false (di x_Col),.ro k1 (.sl 1 (x_Out.map ei))]] = some (vb true,[]):=by
 refine Ga pf155 pb155 ?_
 unfold pb155
 refine Ua (J4 hok_x_P_V_S hok_x_P_L hoks_x_P_L hok_x_Out) ?_
 all_goals simp [pf155]

@[simp] theorem t250 (k0 : Bool) (x_Rows : List XRow) (x_N : Int) (x_Has : Bool) (x_V_Ty : Int) (x_V_N : Int) (x_V_S : ByteArray) (hsm_x_Rows : x_Rows.length ≤ 1048576) (hsms_x_Rows : XRow.sms x_Rows) : Gw TT 250 [.st [.ro k0 (.sl 2 (x_Rows.map XRow.e)),.ro false (di x_N),.ro false (.bool x_Has),.ro false (di x_V_Ty),.ro false (di x_V_N),.ro false (.str x_V_S)]] = some (.st [.own (.sl 2 (x_Rows.map XRow.e)),.ro false (di x_N),.ro false (.bool x_Has),.ro false (di x_V_Ty),.ro false (di x_V_N),.ro false (.str x_V_S)],[]):=by
 refine Ga pf250 pb250 ?_
 unfold pb250
 refine Ua (J2 hsm_x_Rows hsms_x_Rows) ?_
 all_goals simp [pf250]

@[simp] theorem t158 (k0 k1 : Bool) (x_Rows : List XRow) (x_N : Int) (x_Has : Bool) (x_V_Ty : Int) (x_V_N : Int) (x_V_S : ByteArray) (hok_x_Rows : x_Rows.length ≤ 1048576) (hoks_x_Rows : XRow.sms x_Rows) : Gw TT 158 [.st [.ro k0 (.sl 2 (x_Rows.map XRow.e)),.ro false (di x_N),.ro false (.bool x_Has),.ro false (di x_V_Ty),.ro false (di x_V_N),.ro false (.str x_V_S)],.st [.ro k1 (.sl 2 (x_Rows.map XRow.e)),.ro false (di x_N),.ro false (.bool x_Has),.ro false (di x_V_Ty),.ro false (di x_V_N),.ro false (.str x_V_S)]] = some (vb true,[]):=by
 refine Ga pf158 pb158 ?_
 unfold pb158
 refine Ua (J2 hok_x_Rows hoks_x_Rows) ?_
 all_goals simp [pf158]

@[simp] theorem t255 (k0 : Bool) (x_Op : Int) (x_Pc : Int) (x_H : Int) (x_R : List XVal) (x_Id : Int) (x_Q_Kind : Int) (x_Q_P_Kind : Int) (x_Q_P_Col : Int) (x_Q_P_Op : Int) (x_Q_P_V_Ty : Int) (x_Q_P_V_N : Int) (x_Q_P_V_S : ByteArray) (x_Q_P_L : List XPred) (x_Q_Col : Int) (x_Q_Out : List Int) (x_Ts : Int) (x_Ver : Int) (x_L : List XRef) (x_I : Int) (x_J : Int) (x_S : Int) (x_At : Int) (x_Own : Int) (x_Won : Bool) (x_Got : List XRow) (hsm_x_R : x_R.length ≤ 1048576) (hsms_x_R : XVal.sms x_R) (hsm_x_Q_P_V_S : x_Q_P_V_S.size ≤ 1048576) (hsm_x_Q_P_L : x_Q_P_L.length ≤ 1048576) (hsms_x_Q_P_L : XPred.sms x_Q_P_L) (hsm_x_Q_Out : x_Q_Out.length ≤ 1048576) (hsm_x_L : x_L.length ≤ 1048576) (hsm_x_Got : x_Got.length ≤ 1048576) (hsms_x_Got : XRow.sms x_Got) : Gw TT 255 [.st [.ro false (di x_Op),.ro false (di x_Pc),.ro false (di x_H),.ro k0 (.sl 3 (x_R.map XVal.e)),.ro false (di x_Id),.ro false (di x_Q_Kind),.ro false (di x_Q_P_Kind),.ro false (di x_Q_P_Col),.ro false (di x_Q_P_Op),.ro false (di x_Q_P_V_Ty),.ro false (di x_Q_P_V_N),.ro false (.str x_Q_P_V_S),.ro k0 (.sl 7 (x_Q_P_L.map XPred.e)),.ro false (di x_Q_Col),.ro k0 (.sl 1 (x_Q_Out.map ei)),.ro false (di x_Ts),.ro false (di x_Ver),.ro k0 (.sl 5 (x_L.map XRef.e)),.ro false (di x_I),.ro false (di x_J),.ro false (di x_S),.ro false (di x_At),.ro false (di x_Own),.ro false (.bool x_Won),.ro k0 (.sl 2 (x_Got.map XRow.e))]] = some (.st [.ro false (di x_Op),.ro false (di x_Pc),.ro false (di x_H),.own (.sl 3 (x_R.map XVal.e)),.ro false (di x_Id),.ro false (di x_Q_Kind),.ro false (di x_Q_P_Kind),.ro false (di x_Q_P_Col),.ro false (di x_Q_P_Op),.ro false (di x_Q_P_V_Ty),.ro false (di x_Q_P_V_N),.ro false (.str x_Q_P_V_S),.own (.sl 7 (x_Q_P_L.map XPred.e)),.ro false (di x_Q_Col),.own (.sl 1 (x_Q_Out.map ei)),.ro false (di x_Ts),.ro false (di x_Ver),.own (.sl 5 (x_L.map XRef.e)),.ro false (di x_I),.ro false (di x_J),.ro false (di x_S),.ro false (di x_At),.ro false (di x_Own),.ro false (.bool x_Won),.own (.sl 2 (x_Got.map XRow.e))],[]):=by
 refine Ga pf255 pb255 ?_
 unfold pb255
 refine Ua (J8 hsm_x_R hsms_x_R hsm_x_Q_P_V_S hsm_x_Q_P_L hsms_x_Q_P_L hsm_x_Q_Out hsm_x_L (J2 hsm_x_Got hsms_x_Got)) ?_
 all_goals simp [pf255]

@[simp] theorem t256 (k0 : Bool) (l : List XTask) (h : l.length ≤ 1048576) (hs : XTask.sms l) : Gw TT 256 [.one (.ro k0 (.sl 25 (l.map XTask.e)))] = some (.one (.own (.sl 25 (l.map XTask.e))),[]):=by
 refine Ga pf256 pb256 ?_
 unfold pb256
 refine Ud Oo ?_
 repeat intro hc
 ·refine wp_loopI (σ:=List XTask × List XTask) (fun s => [(0,AV.v k0 (D.sl 25 (List.map XTask.e l)),none),(3,AV.pl 3 0 [],some (Rt.vir [C.own (D.sl 25 (s.1.map XTask.e ++ List.replicate s.2.length [.int .i64 0,.int .i64 0,.int .i64 0,.sl 3 [],.int .i64 0,.int .i64 0,.int .i64 0,.int .i64 0,.int .i64 0,.int .i64 0,.int .i64 0,.str ⟨#[]⟩,.sl 7 [],.int .i64 0,.sl 1 [],.int .i64 0,.int .i64 0,.sl 5 [],.int .i64 0,.int .i64 0,.int .i64 0,.int .i64 0,.int .i64 0,.bool false,.sl 2 []]))])),(4,AV.v false (di (s.1.length : Nat)),none)]) (fun s => l = s.1 ++ s.2) (fun s => s.2.length) ([],l) (by simp) rfl ?_
  rintro ⟨pre,rest⟩ h1
  simp only at h1
  subst h1
  simp only [List.length_append,List.length_cons] at h
  rcases rest with _ | ⟨⟨y_Op,y_Pc,y_H,y_R,y_Id,⟨y_Q_Kind,⟨y_Q_P_Kind,y_Q_P_Col,y_Q_P_Op,⟨y_Q_P_V_Ty,y_Q_P_V_N,y_Q_P_V_S⟩,y_Q_P_L⟩,y_Q_Col,y_Q_Out⟩,y_Ts,y_Ver,y_L,y_I,y_J,y_S,y_At,y_Own,y_Won,y_Got⟩,rest⟩
  ·unfold pl256_0
   refine Ud Oo ?_
   all_goals simp [pf256]
  ·unfold pl256_0
   simp only [List.length_cons] at h
   have hw:=Wi ((pre.length : Int) + 1)
   have hd:=hs ⟨y_Op,y_Pc,y_H,y_R,y_Id,⟨y_Q_Kind,⟨y_Q_P_Kind,y_Q_P_Col,y_Q_P_Op,⟨y_Q_P_V_Ty,y_Q_P_V_N,y_Q_P_V_S⟩,y_Q_P_L⟩,y_Q_Col,y_Q_Out⟩,y_Ts,y_Ver,y_L,y_I,y_J,y_S,y_At,y_Own,y_Won,y_Got⟩ (by simp)
   simp only [XTask.sm,XQuery.sm,XPred.sm_eq,XVal.sm,and_assoc] at hd
   obtain ⟨hsm_y_R,hsms_y_R,hsm_y_Q_P_V_S,hsm_y_Q_P_L,hsms_y_Q_P_L,hsm_y_Q_Out,hsm_y_L,hsm_y_Got,hsms_y_Got⟩:=hd
   refine Ud (J8 @repS hw hsm_y_R hsms_y_R hsm_y_Q_P_V_S hsm_y_Q_P_L hsms_y_Q_P_L (J4 hsm_y_Q_Out hsm_y_L hsm_y_Got hsms_y_Got)) ?_
   repeat intro hc
   all_goals exact ⟨(pre ++ [⟨y_Op,y_Pc,y_H,y_R,y_Id,⟨y_Q_Kind,⟨y_Q_P_Kind,y_Q_P_Col,y_Q_P_Op,⟨y_Q_P_V_Ty,y_Q_P_V_N,y_Q_P_V_S⟩,y_Q_P_L⟩,y_Q_Col,y_Q_Out⟩,y_Ts,y_Ver,y_L,y_I,y_J,y_S,y_At,y_Own,y_Won,y_Got⟩],rest),by simp,by simp,by simp⟩

@[simp] theorem t163 (k0 k1 : Bool) (x_Op : Int) (x_Pc : Int) (x_H : Int) (x_R : List XVal) (x_Id : Int) (x_Q_Kind : Int) (x_Q_P_Kind : Int) (x_Q_P_Col : Int) (x_Q_P_Op : Int) (x_Q_P_V_Ty : Int) (x_Q_P_V_N : Int) (x_Q_P_V_S : ByteArray) (x_Q_P_L : List XPred) (x_Q_Col : Int) (x_Q_Out : List Int) (x_Ts : Int) (x_Ver : Int) (x_L : List XRef) (x_I : Int) (x_J : Int) (x_S : Int) (x_At : Int) (x_Own : Int) (x_Won : Bool) (x_Got : List XRow) (hok_x_R : x_R.length ≤ 1048576) (hoks_x_R : XVal.sms x_R) (hok_x_Q_P_V_S : x_Q_P_V_S.size ≤ 1048576) (hok_x_Q_P_L : x_Q_P_L.length ≤ 1048576) (hoks_x_Q_P_L : XPred.sms x_Q_P_L) (hok_x_Q_Out : x_Q_Out.length ≤ 1048576) (hok_x_L : x_L.length ≤ 1048576) (hok_x_Got : x_Got.length ≤ 1048576) (hoks_x_Got : XRow.sms x_Got) : Gw TT 163 [.st [.ro false (di x_Op),.ro false (di x_Pc),.ro false (di x_H),.ro k0 (.sl 3 (x_R.map XVal.e)),.ro false (di x_Id),.ro false (di x_Q_Kind),.ro false (di x_Q_P_Kind),.ro false (di x_Q_P_Col),.ro false (di x_Q_P_Op),.ro false (di x_Q_P_V_Ty),.ro false (di x_Q_P_V_N),.ro false (.str x_Q_P_V_S),.ro k0 (.sl 7 (x_Q_P_L.map XPred.e)),.ro false (di x_Q_Col),.ro k0 (.sl 1 (x_Q_Out.map ei)),.ro false (di x_Ts),.ro false (di x_Ver),.ro k0 (.sl 5 (x_L.map XRef.e)),.ro false (di x_I),.ro false (di x_J),.ro false (di x_S),.ro false (di x_At),.ro false (di x_Own),.ro false (.bool x_Won),.ro k0 (.sl 2 (x_Got.map XRow.e))],.st [.ro false (di x_Op),.ro false (di x_Pc),.ro false (di x_H),.ro k1 (.sl 3 (x_R.map XVal.e)),.ro false (di x_Id),.ro false (di x_Q_Kind),.ro false (di x_Q_P_Kind),.ro false (di x_Q_P_Col),.ro false (di x_Q_P_Op),.ro false (di x_Q_P_V_Ty),.ro false (di x_Q_P_V_N),.ro false (.str x_Q_P_V_S),.ro k1 (.sl 7 (x_Q_P_L.map XPred.e)),.ro false (di x_Q_Col),.ro k1 (.sl 1 (x_Q_Out.map ei)),.ro false (di x_Ts),.ro false (di x_Ver),.ro k1 (.sl 5 (x_L.map XRef.e)),.ro false (di x_I),.ro false (di x_J),.ro false (di x_S),.ro false (di x_At),.ro false (di x_Own),.ro false (.bool x_Won),.ro k1 (.sl 2 (x_Got.map XRow.e))]] = some (vb true,[]):=by
 refine Ga pf163 pb163 ?_
 unfold pb163
 refine Ua (J8 hok_x_R hoks_x_R hok_x_Q_P_V_S hok_x_Q_P_L hoks_x_Q_P_L hok_x_Q_Out hok_x_L (J2 hok_x_Got hoks_x_Got)) ?_
 all_goals simp [pf163]

@[simp] theorem t164 (k0 k1 : Bool) (l : List XTask) (h : l.length ≤ 1048576) (hs : XTask.sms l) : Gw TT 164 [.one (.ro k0 (.sl 25 (l.map XTask.e))),.one (.ro k1 (.sl 25 (l.map XTask.e)))] = some (vb true,[]):=by
 refine Ga pf164 pb164 ?_
 unfold pb164
 refine Ud Oo ?_
 ·refine wp_loopI (σ:=List XTask × List XTask) (fun s => [(0,AV.v k0 (D.sl 25 (List.map XTask.e l)),none),(1,AV.v k1 (D.sl 25 (List.map XTask.e l)),none),(5,AV.v false (di (s.1.length : Nat)),none)]) (fun s => l = s.1 ++ s.2) (fun s => s.2.length) ([],l) (by simp) rfl ?_
  rintro ⟨pre,rest⟩ h1
  simp only at h1
  subst h1
  simp only [List.length_append,List.length_cons] at h
  rcases rest with _ | ⟨⟨y_Op,y_Pc,y_H,y_R,y_Id,⟨y_Q_Kind,⟨y_Q_P_Kind,y_Q_P_Col,y_Q_P_Op,⟨y_Q_P_V_Ty,y_Q_P_V_N,y_Q_P_V_S⟩,y_Q_P_L⟩,y_Q_Col,y_Q_Out⟩,y_Ts,y_Ver,y_L,y_I,y_J,y_S,y_At,y_Own,y_Won,y_Got⟩,rest⟩
  ·unfold pl164_0
   refine Ud Oo ?_
   all_goals simp [pf164]
  ·unfold pl164_0
   simp only [List.length_cons] at h
   have hw:=Wi ((pre.length : Int) + 1)
   have hd:=hs ⟨y_Op,y_Pc,y_H,y_R,y_Id,⟨y_Q_Kind,⟨y_Q_P_Kind,y_Q_P_Col,y_Q_P_Op,⟨y_Q_P_V_Ty,y_Q_P_V_N,y_Q_P_V_S⟩,y_Q_P_L⟩,y_Q_Col,y_Q_Out⟩,y_Ts,y_Ver,y_L,y_I,y_J,y_S,y_At,y_Own,y_Won,y_Got⟩ (by simp)
   simp only [XTask.sm,XQuery.sm,XPred.sm_eq,XVal.sm,and_assoc] at hd
   obtain ⟨hsm_y_R,hsms_y_R,hsm_y_Q_P_V_S,hsm_y_Q_P_L,hsms_y_Q_P_L,hsm_y_Q_Out,hsm_y_L,hsm_y_Got,hsms_y_Got⟩:=hd
   refine Ud (J8 hw hsm_y_R hsms_y_R hsm_y_Q_P_V_S hsm_y_Q_P_L hsms_y_Q_P_L hsm_y_Q_Out (J3 hsm_y_L hsm_y_Got hsms_y_Got)) ?_
   repeat intro hc
   all_goals exact ⟨(pre ++ [⟨y_Op,y_Pc,y_H,y_R,y_Id,⟨y_Q_Kind,⟨y_Q_P_Kind,y_Q_P_Col,y_Q_P_Op,⟨y_Q_P_V_Ty,y_Q_P_V_N,y_Q_P_V_S⟩,y_Q_P_L⟩,y_Q_Col,y_Q_Out⟩,y_Ts,y_Ver,y_L,y_I,y_J,y_S,y_At,y_Own,y_Won,y_Got⟩],rest),by simp,by simp,by simp⟩

@[simp] theorem t241 (k0 : Bool) (x_Op : Int) (x_Task : Int) (x_R : List XVal) (x_Id : Int) (x_Q_Kind : Int) (x_Q_P_Kind : Int) (x_Q_P_Col : Int) (x_Q_P_Op : Int) (x_Q_P_V_Ty : Int) (x_Q_P_V_N : Int) (x_Q_P_V_S : ByteArray) (x_Q_P_L : List XPred) (x_Q_Col : Int) (x_Q_Out : List Int) (x_Res_Rows : List XRow) (x_Res_N : Int) (x_Res_Has : Bool) (x_Res_V_Ty : Int) (x_Res_V_N : Int) (x_Res_V_S : ByteArray) (x_Code : Int) (x_Stamp : Int) (x_Inv : Int) (x_Lin : Int) (x_Ret : Int) (hsm_x_R : x_R.length ≤ 1048576) (hsms_x_R : XVal.sms x_R) (hsm_x_Q_P_V_S : x_Q_P_V_S.size ≤ 1048576) (hsm_x_Q_P_L : x_Q_P_L.length ≤ 1048576) (hsms_x_Q_P_L : XPred.sms x_Q_P_L) (hsm_x_Q_Out : x_Q_Out.length ≤ 1048576) (hsm_x_Res_Rows : x_Res_Rows.length ≤ 1048576) (hsms_x_Res_Rows : XRow.sms x_Res_Rows) (hsm_x_Res_V_S : x_Res_V_S.size ≤ 1048576) : Gw TT 241 [.st [.ro false (di x_Op),.ro false (di x_Task),.ro k0 (.sl 3 (x_R.map XVal.e)),.ro false (di x_Id),.ro false (di x_Q_Kind),.ro false (di x_Q_P_Kind),.ro false (di x_Q_P_Col),.ro false (di x_Q_P_Op),.ro false (di x_Q_P_V_Ty),.ro false (di x_Q_P_V_N),.ro false (.str x_Q_P_V_S),.ro k0 (.sl 7 (x_Q_P_L.map XPred.e)),.ro false (di x_Q_Col),.ro k0 (.sl 1 (x_Q_Out.map ei)),.ro k0 (.sl 2 (x_Res_Rows.map XRow.e)),.ro false (di x_Res_N),.ro false (.bool x_Res_Has),.ro false (di x_Res_V_Ty),.ro false (di x_Res_V_N),.ro false (.str x_Res_V_S),.ro false (di x_Code),.ro false (di x_Stamp),.ro false (di x_Inv),.ro false (di x_Lin),.ro false (di x_Ret)]] = some (.st [.ro false (di x_Op),.ro false (di x_Task),.own (.sl 3 (x_R.map XVal.e)),.ro false (di x_Id),.ro false (di x_Q_Kind),.ro false (di x_Q_P_Kind),.ro false (di x_Q_P_Col),.ro false (di x_Q_P_Op),.ro false (di x_Q_P_V_Ty),.ro false (di x_Q_P_V_N),.ro false (.str x_Q_P_V_S),.own (.sl 7 (x_Q_P_L.map XPred.e)),.ro false (di x_Q_Col),.own (.sl 1 (x_Q_Out.map ei)),.own (.sl 2 (x_Res_Rows.map XRow.e)),.ro false (di x_Res_N),.ro false (.bool x_Res_Has),.ro false (di x_Res_V_Ty),.ro false (di x_Res_V_N),.ro false (.str x_Res_V_S),.ro false (di x_Code),.ro false (di x_Stamp),.ro false (di x_Inv),.ro false (di x_Lin),.ro false (di x_Ret)],[]):=by
 refine Ga pf241 pb241 ?_
 unfold pb241
 refine Ua (J8 hsm_x_R hsms_x_R hsm_x_Q_P_V_S hsm_x_Q_P_L hsms_x_Q_P_L hsm_x_Q_Out hsm_x_Res_Rows (J2 hsms_x_Res_Rows hsm_x_Res_V_S)) ?_
 all_goals simp [pf241]

@[simp] theorem t242 (k0 : Bool) (l : List XDeed) (h : l.length ≤ 1048576) (hs : XDeed.sms l) : Gw TT 242 [.one (.ro k0 (.sl 25 (l.map XDeed.e)))] = some (.one (.own (.sl 25 (l.map XDeed.e))),[]):=by
 refine Ga pf242 pb242 ?_
 unfold pb242
 refine Ud Oo ?_
 repeat intro hc
 ·refine wp_loopI (σ:=List XDeed × List XDeed) (fun s => [(0,AV.v k0 (D.sl 25 (List.map XDeed.e l)),none),(3,AV.pl 3 0 [],some (Rt.vir [C.own (D.sl 25 (s.1.map XDeed.e ++ List.replicate s.2.length [.int .i64 0,.int .i64 0,.sl 3 [],.int .i64 0,.int .i64 0,.int .i64 0,.int .i64 0,.int .i64 0,.int .i64 0,.int .i64 0,.str ⟨#[]⟩,.sl 7 [],.int .i64 0,.sl 1 [],.sl 2 [],.int .i64 0,.bool false,.int .i64 0,.int .i64 0,.str ⟨#[]⟩,.int .i64 0,.int .i64 0,.int .i64 0,.int .i64 0,.int .i64 0]))])),(4,AV.v false (di (s.1.length : Nat)),none)]) (fun s => l = s.1 ++ s.2) (fun s => s.2.length) ([],l) (by simp) rfl ?_
  rintro ⟨pre,rest⟩ h1
  simp only at h1
  subst h1
  simp only [List.length_append,List.length_cons] at h
  rcases rest with _ | ⟨⟨y_Op,y_Task,y_R,y_Id,⟨y_Q_Kind,⟨y_Q_P_Kind,y_Q_P_Col,y_Q_P_Op,⟨y_Q_P_V_Ty,y_Q_P_V_N,y_Q_P_V_S⟩,y_Q_P_L⟩,y_Q_Col,y_Q_Out⟩,⟨y_Res_Rows,y_Res_N,y_Res_Has,⟨y_Res_V_Ty,y_Res_V_N,y_Res_V_S⟩⟩,y_Code,y_Stamp,y_Inv,y_Lin,y_Ret⟩,rest⟩
  ·unfold pl242_0
   refine Ud Oo ?_
   all_goals simp [pf242]
  ·unfold pl242_0
   simp only [List.length_cons] at h
   have hw:=Wi ((pre.length : Int) + 1)
   have hd:=hs ⟨y_Op,y_Task,y_R,y_Id,⟨y_Q_Kind,⟨y_Q_P_Kind,y_Q_P_Col,y_Q_P_Op,⟨y_Q_P_V_Ty,y_Q_P_V_N,y_Q_P_V_S⟩,y_Q_P_L⟩,y_Q_Col,y_Q_Out⟩,⟨y_Res_Rows,y_Res_N,y_Res_Has,⟨y_Res_V_Ty,y_Res_V_N,y_Res_V_S⟩⟩,y_Code,y_Stamp,y_Inv,y_Lin,y_Ret⟩ (by simp)
   simp only [XDeed.sm,XQuery.sm,XPred.sm_eq,XVal.sm,XResult.sm,and_assoc] at hd
   obtain ⟨hsm_y_R,hsms_y_R,hsm_y_Q_P_V_S,hsm_y_Q_P_L,hsms_y_Q_P_L,hsm_y_Q_Out,hsm_y_Res_Rows,hsms_y_Res_Rows,hsm_y_Res_V_S⟩:=hd
   refine Ud (J8 @repS hw hsm_y_R hsms_y_R hsm_y_Q_P_V_S hsm_y_Q_P_L hsms_y_Q_P_L (J4 hsm_y_Q_Out hsm_y_Res_Rows hsms_y_Res_Rows hsm_y_Res_V_S)) ?_
   repeat intro hc
   all_goals exact ⟨(pre ++ [⟨y_Op,y_Task,y_R,y_Id,⟨y_Q_Kind,⟨y_Q_P_Kind,y_Q_P_Col,y_Q_P_Op,⟨y_Q_P_V_Ty,y_Q_P_V_N,y_Q_P_V_S⟩,y_Q_P_L⟩,y_Q_Col,y_Q_Out⟩,⟨y_Res_Rows,y_Res_N,y_Res_Has,⟨y_Res_V_Ty,y_Res_V_N,y_Res_V_S⟩⟩,y_Code,y_Stamp,y_Inv,y_Lin,y_Ret⟩],rest),by simp,by simp,by simp⟩

@[simp] theorem t149 (k0 k1 : Bool) (x_Op : Int) (x_Task : Int) (x_R : List XVal) (x_Id : Int) (x_Q_Kind : Int) (x_Q_P_Kind : Int) (x_Q_P_Col : Int) (x_Q_P_Op : Int) (x_Q_P_V_Ty : Int) (x_Q_P_V_N : Int) (x_Q_P_V_S : ByteArray) (x_Q_P_L : List XPred) (x_Q_Col : Int) (x_Q_Out : List Int) (x_Res_Rows : List XRow) (x_Res_N : Int) (x_Res_Has : Bool) (x_Res_V_Ty : Int) (x_Res_V_N : Int) (x_Res_V_S : ByteArray) (x_Code : Int) (x_Stamp : Int) (x_Inv : Int) (x_Lin : Int) (x_Ret : Int) (hok_x_R : x_R.length ≤ 1048576) (hoks_x_R : XVal.sms x_R) (hok_x_Q_P_V_S : x_Q_P_V_S.size ≤ 1048576) (hok_x_Q_P_L : x_Q_P_L.length ≤ 1048576) (hoks_x_Q_P_L : XPred.sms x_Q_P_L) (hok_x_Q_Out : x_Q_Out.length ≤ 1048576) (hok_x_Res_Rows : x_Res_Rows.length ≤ 1048576) (hoks_x_Res_Rows : XRow.sms x_Res_Rows) (hok_x_Res_V_S : x_Res_V_S.size ≤ 1048576) : Gw TT 149 [.st [.ro false (di x_Op),.ro false (di x_Task),.ro k0 (.sl 3 (x_R.map XVal.e)),.ro false (di x_Id),.ro false (di x_Q_Kind),.ro false (di x_Q_P_Kind),.ro false (di x_Q_P_Col),.ro false (di x_Q_P_Op),.ro false (di x_Q_P_V_Ty),.ro false (di x_Q_P_V_N),.ro false (.str x_Q_P_V_S),.ro k0 (.sl 7 (x_Q_P_L.map XPred.e)),.ro false (di x_Q_Col),.ro k0 (.sl 1 (x_Q_Out.map ei)),.ro k0 (.sl 2 (x_Res_Rows.map XRow.e)),.ro false (di x_Res_N),.ro false (.bool x_Res_Has),.ro false (di x_Res_V_Ty),.ro false (di x_Res_V_N),.ro false (.str x_Res_V_S),.ro false (di x_Code),.ro false (di x_Stamp),.ro false (di x_Inv),.ro false (di x_Lin),.ro false (di x_Ret)],.st [.ro false (di x_Op),.ro false (di x_Task),.ro k1 (.sl 3 (x_R.map XVal.e)),.ro false (di x_Id),.ro false (di x_Q_Kind),.ro false (di x_Q_P_Kind),.ro false (di x_Q_P_Col),.ro false (di x_Q_P_Op),.ro false (di x_Q_P_V_Ty),.ro false (di x_Q_P_V_N),.ro false (.str x_Q_P_V_S),.ro k1 (.sl 7 (x_Q_P_L.map XPred.e)),.ro false (di x_Q_Col),.ro k1 (.sl 1 (x_Q_Out.map ei)),.ro k1 (.sl 2 (x_Res_Rows.map XRow.e)),.ro false (di x_Res_N),.ro false (.bool x_Res_Has),.ro false (di x_Res_V_Ty),.ro false (di x_Res_V_N),.ro false (.str x_Res_V_S),.ro false (di x_Code),.ro false (di x_Stamp),.ro false (di x_Inv),.ro false (di x_Lin),.ro false (di x_Ret)]] = some (vb true,[]):=by
 refine Ga pf149 pb149 ?_
 unfold pb149
 refine Ua (J8 hok_x_R hoks_x_R hok_x_Q_P_V_S hok_x_Q_P_L hoks_x_Q_P_L hok_x_Q_Out hok_x_Res_Rows (J2 hoks_x_Res_Rows hok_x_Res_V_S)) ?_
 all_goals simp [pf149]

@[simp] theorem t150 (k0 k1 : Bool) (l : List XDeed) (h : l.length ≤ 1048576) (hs : XDeed.sms l) : Gw TT 150 [.one (.ro k0 (.sl 25 (l.map XDeed.e))),.one (.ro k1 (.sl 25 (l.map XDeed.e)))] = some (vb true,[]):=by
 refine Ga pf150 pb150 ?_
 unfold pb150
 refine Ud Oo ?_
 ·refine wp_loopI (σ:=List XDeed × List XDeed) (fun s => [(0,AV.v k0 (D.sl 25 (List.map XDeed.e l)),none),(1,AV.v k1 (D.sl 25 (List.map XDeed.e l)),none),(5,AV.v false (di (s.1.length : Nat)),none)]) (fun s => l = s.1 ++ s.2) (fun s => s.2.length) ([],l) (by simp) rfl ?_
  rintro ⟨pre,rest⟩ h1
  simp only at h1
  subst h1
  simp only [List.length_append,List.length_cons] at h
  rcases rest with _ | ⟨⟨y_Op,y_Task,y_R,y_Id,⟨y_Q_Kind,⟨y_Q_P_Kind,y_Q_P_Col,y_Q_P_Op,⟨y_Q_P_V_Ty,y_Q_P_V_N,y_Q_P_V_S⟩,y_Q_P_L⟩,y_Q_Col,y_Q_Out⟩,⟨y_Res_Rows,y_Res_N,y_Res_Has,⟨y_Res_V_Ty,y_Res_V_N,y_Res_V_S⟩⟩,y_Code,y_Stamp,y_Inv,y_Lin,y_Ret⟩,rest⟩
  ·unfold pl150_0
   refine Ud Oo ?_
   all_goals simp [pf150]
  ·unfold pl150_0
   simp only [List.length_cons] at h
   have hw:=Wi ((pre.length : Int) + 1)
   have hd:=hs ⟨y_Op,y_Task,y_R,y_Id,⟨y_Q_Kind,⟨y_Q_P_Kind,y_Q_P_Col,y_Q_P_Op,⟨y_Q_P_V_Ty,y_Q_P_V_N,y_Q_P_V_S⟩,y_Q_P_L⟩,y_Q_Col,y_Q_Out⟩,⟨y_Res_Rows,y_Res_N,y_Res_Has,⟨y_Res_V_Ty,y_Res_V_N,y_Res_V_S⟩⟩,y_Code,y_Stamp,y_Inv,y_Lin,y_Ret⟩ (by simp)
   simp only [XDeed.sm,XQuery.sm,XPred.sm_eq,XVal.sm,XResult.sm,and_assoc] at hd
   obtain ⟨hsm_y_R,hsms_y_R,hsm_y_Q_P_V_S,hsm_y_Q_P_L,hsms_y_Q_P_L,hsm_y_Q_Out,hsm_y_Res_Rows,hsms_y_Res_Rows,hsm_y_Res_V_S⟩:=hd
   refine Ud (J8 hw hsm_y_R hsms_y_R hsm_y_Q_P_V_S hsm_y_Q_P_L hsms_y_Q_P_L hsm_y_Q_Out (J3 hsm_y_Res_Rows hsms_y_Res_Rows hsm_y_Res_V_S)) ?_
   repeat intro hc
   all_goals exact ⟨(pre ++ [⟨y_Op,y_Task,y_R,y_Id,⟨y_Q_Kind,⟨y_Q_P_Kind,y_Q_P_Col,y_Q_P_Op,⟨y_Q_P_V_Ty,y_Q_P_V_N,y_Q_P_V_S⟩,y_Q_P_L⟩,y_Q_Col,y_Q_Out⟩,⟨y_Res_Rows,y_Res_N,y_Res_Has,⟨y_Res_V_Ty,y_Res_V_N,y_Res_V_S⟩⟩,y_Code,y_Stamp,y_Inv,y_Lin,y_Ret⟩],rest),by simp,by simp,by simp⟩

@[simp] theorem t259 (k0 : Bool) (x_C_Cols : List Int) (x_C_Slots : Int) (x_C_Bufs : Int) (x_Time : Int) (x_T : Int) (x_E : Int) (x_Dd_Ver : Int) (x_Dd_L : List XRef) (x_B : List XBuf) (x_M : List Int) (x_X : List XDead) (x_P : List Int) (x_Tasks : List XTask) (x_Deeds : List XDeed) (hsm_x_C_Cols : x_C_Cols.length ≤ 1048576) (hsm_x_Dd_L : x_Dd_L.length ≤ 1048576) (hsm_x_B : x_B.length ≤ 1048576) (hsms_x_B : XBuf.sms x_B) (hsm_x_M : x_M.length ≤ 1048576) (hsm_x_X : x_X.length ≤ 1048576) (hsm_x_P : x_P.length ≤ 1048576) (hsm_x_Tasks : x_Tasks.length ≤ 1048576) (hsms_x_Tasks : XTask.sms x_Tasks) (hsm_x_Deeds : x_Deeds.length ≤ 1048576) (hsms_x_Deeds : XDeed.sms x_Deeds) : Gw TT 259 [.st [.ro k0 (.sl 1 (x_C_Cols.map ei)),.ro false (di x_C_Slots),.ro false (di x_C_Bufs),.ro false (di x_Time),.ro false (di x_T),.ro false (di x_E),.ro false (di x_Dd_Ver),.ro k0 (.sl 5 (x_Dd_L.map XRef.e)),.ro k0 (.sl 5 (x_B.map XBuf.e)),.ro k0 (.sl 1 (x_M.map ei)),.ro k0 (.sl 3 (x_X.map XDead.e)),.ro k0 (.sl 1 (x_P.map ei)),.ro k0 (.sl 25 (x_Tasks.map XTask.e)),.ro k0 (.sl 25 (x_Deeds.map XDeed.e))]] = some (.st [.own (.sl 1 (x_C_Cols.map ei)),.ro false (di x_C_Slots),.ro false (di x_C_Bufs),.ro false (di x_Time),.ro false (di x_T),.ro false (di x_E),.ro false (di x_Dd_Ver),.own (.sl 5 (x_Dd_L.map XRef.e)),.own (.sl 5 (x_B.map XBuf.e)),.own (.sl 1 (x_M.map ei)),.own (.sl 3 (x_X.map XDead.e)),.own (.sl 1 (x_P.map ei)),.own (.sl 25 (x_Tasks.map XTask.e)),.own (.sl 25 (x_Deeds.map XDeed.e))],[]):=by
 refine Ga pf259 pb259 ?_
 unfold pb259
 refine Ua (J8 hsm_x_C_Cols hsm_x_Dd_L hsm_x_B hsms_x_B hsm_x_M hsm_x_X hsm_x_P (J4 hsm_x_Tasks hsms_x_Tasks hsm_x_Deeds hsms_x_Deeds)) ?_
 all_goals simp [pf259]

@[simp] theorem t167 (k0 k1 : Bool) (x_C_Cols : List Int) (x_C_Slots : Int) (x_C_Bufs : Int) (x_Time : Int) (x_T : Int) (x_E : Int) (x_Dd_Ver : Int) (x_Dd_L : List XRef) (x_B : List XBuf) (x_M : List Int) (x_X : List XDead) (x_P : List Int) (x_Tasks : List XTask) (x_Deeds : List XDeed) (hok_x_C_Cols : x_C_Cols.length ≤ 1048576) (hok_x_Dd_L : x_Dd_L.length ≤ 1048576) (hok_x_B : x_B.length ≤ 1048576) (hoks_x_B : XBuf.sms x_B) (hok_x_M : x_M.length ≤ 1048576) (hok_x_X : x_X.length ≤ 1048576) (hok_x_P : x_P.length ≤ 1048576) (hok_x_Tasks : x_Tasks.length ≤ 1048576) (hoks_x_Tasks : XTask.sms x_Tasks) (hok_x_Deeds : x_Deeds.length ≤ 1048576) (hoks_x_Deeds : XDeed.sms x_Deeds) : Gw TT 167 [.st [.ro k0 (.sl 1 (x_C_Cols.map ei)),.ro false (di x_C_Slots),.ro false (di x_C_Bufs),.ro false (di x_Time),.ro false (di x_T),.ro false (di x_E),.ro false (di x_Dd_Ver),.ro k0 (.sl 5 (x_Dd_L.map XRef.e)),.ro k0 (.sl 5 (x_B.map XBuf.e)),.ro k0 (.sl 1 (x_M.map ei)),.ro k0 (.sl 3 (x_X.map XDead.e)),.ro k0 (.sl 1 (x_P.map ei)),.ro k0 (.sl 25 (x_Tasks.map XTask.e)),.ro k0 (.sl 25 (x_Deeds.map XDeed.e))],.st [.ro k1 (.sl 1 (x_C_Cols.map ei)),.ro false (di x_C_Slots),.ro false (di x_C_Bufs),.ro false (di x_Time),.ro false (di x_T),.ro false (di x_E),.ro false (di x_Dd_Ver),.ro k1 (.sl 5 (x_Dd_L.map XRef.e)),.ro k1 (.sl 5 (x_B.map XBuf.e)),.ro k1 (.sl 1 (x_M.map ei)),.ro k1 (.sl 3 (x_X.map XDead.e)),.ro k1 (.sl 1 (x_P.map ei)),.ro k1 (.sl 25 (x_Tasks.map XTask.e)),.ro k1 (.sl 25 (x_Deeds.map XDeed.e))]] = some (vb true,[]):=by
 refine Ga pf167 pb167 ?_
 unfold pb167
 refine Ua (J8 hok_x_C_Cols hok_x_Dd_L hok_x_B hoks_x_B hok_x_M hok_x_X hok_x_P (J4 hok_x_Tasks hoks_x_Tasks hok_x_Deeds hoks_x_Deeds)) ?_
 all_goals simp [pf167]

theorem t219 (k0 : Bool) (l : List Int) (left : Int) (h0 : 0 ≤ left) (h1 : left ≤ 1048576) (hl : l.length ≤ 9223372036854775807) :
  ∃ n,Gw TT 219 [.one (.ro k0 (.sl 1 (l.map ei))),vi left] = some (vi n,[]) ∧ -1 ≤ n ∧ n ≤ left ∧ (0 ≤ n → l.length ≤ 1048576):=by
 refine Gw_ofI (F:=pf219) rfl rfl ?_
 show Wp _ pb219 _ _
 unfold pb219
 have g:=Wi (left - (l.length : Int))
 refine Uw g ?_ ?_
 all_goals repeat intro hc
 ·exact ⟨-1,by simp [pf219],by omega,by omega,fun h => absurd h (by omega)⟩
 ·exact ⟨left - (l.length : Int),by simp [pf219],by omega,by omega,fun _ => by omega⟩

theorem t212 (k0 : Bool) (l : List Int) (left : Int) (h0 : 0 ≤ left) (h1 : left ≤ 1048576) (hl : l.length ≤ 9223372036854775807) :
  ∃ n,Gw TT 212 [.one (.ro k0 (.sl 1 (l.map eb))),vi left] = some (vi n,[]) ∧ -1 ≤ n ∧ n ≤ left ∧ (0 ≤ n → l.length ≤ 1048576):=by
 refine Gw_ofI (F:=pf212) rfl rfl ?_
 show Wp _ pb212 _ _
 unfold pb212
 have g:=Wi (left - (l.length : Int))
 refine Uw g ?_ ?_
 all_goals repeat intro hc
 ·exact ⟨-1,by simp [pf212],by omega,by omega,fun h => absurd h (by omega)⟩
 ·exact ⟨left - (l.length : Int),by simp [pf212],by omega,by omega,fun _ => by omega⟩

theorem t231 (x_Ty : Int) (x_N : Int) (x_S : ByteArray) (left : Int) (h0 : 0 ≤ left) (h1 : left ≤ 1048576) (hok_x_S : x_S.size ≤ 9223372036854775807) :
  ∃ n,Gw TT 231 [.st [.ro false (di x_Ty),.ro false (di x_N),.ro false (.str x_S)],vi left] = some (vi n,[]) ∧ -1 ≤ n ∧ n ≤ left ∧ (0 ≤ n → x_S.size ≤ 1048576):=by
 refine Gw_ofI (F:=pf231) rfl rfl ?_
 show Wp _ pb231 _ _
 unfold pb231
 have g1:=Wi (left - (x_S.size : Int))
 refine Uw g1 ?_ ?_
 all_goals repeat intro hc
 ·exact ⟨-1,by simp [pf231],by omega,by omega,fun h => absurd h (by omega)⟩
 ·exact ⟨left - (x_S.size : Int),by simp [pf231],by omega,by omega,fun _ => (by omega)⟩

theorem t232 (k0 : Bool) (l : List XVal) (left : Int) (h0 : 0 ≤ left) (h1 : left ≤ 1048576) (hl : l.length ≤ 9223372036854775807) (hok : XVal.oks l) :
  ∃ n,Gw TT 232 [.one (.ro k0 (.sl 3 (l.map XVal.e))),vi left] = some (vi n,[]) ∧ -1 ≤ n ∧ n ≤ left ∧ (0 ≤ n → l.length ≤ 1048576 ∧ XVal.sms l):=by
 refine Gw_ofI (F:=pf232) rfl rfl ?_
 show Wp _ pb232 _ _
 unfold pb232
 have g:=Wi (left - (l.length : Int))
 refine Ud g ?_ ?_
 all_goals repeat intro hc
 ·exact ⟨-1,by simp [pf232],by omega,by omega,fun h => absurd h (by omega)⟩
 ·refine wp_loopI (σ:=List XVal × List XVal × Int) (fun s => [(0,AV.v k0 (D.sl 3 (List.map XVal.e l)),none),(1,AV.v false (di s.2.2),none),(5,AV.v false (di (s.1.length : Nat)),none)]) (fun s => l = s.1 ++ s.2.1 ∧ 0 ≤ s.2.2 ∧ s.2.2 ≤ left - (l.length : Int) ∧ XVal.sms s.1) (fun s => s.2.1.length) ([],l,left - (l.length : Int)) (by simp) ⟨rfl,by simp only; omega,by simp only; omega,fun y hy => by simp at hy⟩ ?_
  rintro ⟨pre,rest,lf⟩ ⟨h2,h3,h4,h5⟩
  simp only at h2 h3 h4 h5
  subst h2
  simp only [List.length_append,List.length_cons] at hl h4 g
  rcases rest with _ | ⟨⟨y_Ty,y_N,y_S⟩,rest⟩
  ·unfold pl232_0
   refine Ud Oo ?_
   simp only [List.length_nil] at h4
   all_goals exact ⟨lf,by simp [pf232],by omega,by omega,fun _ => ⟨by simp; omega,by simpa using h5⟩⟩
  ·unfold pl232_0
   simp only [List.length_cons] at hl h4
   have hw:=Wi ((pre.length : Int) + 1)
   have hd:=hok ⟨y_Ty,y_N,y_S⟩ (by simp)
   simp only [XVal.ok,and_assoc] at hd
   obtain ⟨hlo_y_Ty,hhi_y_Ty,hlo_y_N,hhi_y_N,hok_y_S⟩:=hd
   obtain ⟨n1,g1,a1,b1,s1⟩:=t231 y_Ty y_N y_S lf (by omega) (by omega) hok_y_S
   refine Ud (J2 g1 hw) ?_ ?_
   all_goals repeat intro hc
   ·exact ⟨-1,by simp [pf232],by omega,by omega,fun h => absurd h (by omega)⟩
   ·exact ⟨(pre ++ [⟨y_Ty,y_N,y_S⟩],rest,n1),by simp,⟨by simp,by simp only; omega,by simp only [List.length_append,List.length_cons]; omega,fun y hy => by
     rcases List.mem_append.1 hy with hy | hy
     ·exact h5 y hy
     ·rw [List.mem_singleton.1 hy]
      simp only [XVal.sm,and_assoc]
      exact s1 (by omega)⟩,by simp⟩

theorem t225 (k0 : Bool) (x_Id : Int) (x_L : List XVal) (left : Int) (h0 : 0 ≤ left) (h1 : left ≤ 1048576) (hok_x_L : x_L.length ≤ 9223372036854775807) (hoks_x_L : XVal.oks x_L) :
  ∃ n,Gw TT 225 [.st [.ro false (di x_Id),.ro k0 (.sl 3 (x_L.map XVal.e))],vi left] = some (vi n,[]) ∧ -1 ≤ n ∧ n ≤ left ∧ (0 ≤ n → x_L.length ≤ 1048576 ∧ XVal.sms x_L):=by
 refine Gw_ofI (F:=pf225) rfl rfl ?_
 show Wp _ pb225 _ _
 unfold pb225
 obtain ⟨n1,g1,a1,b1,s1⟩:=t232 k0 x_L left (by omega) (by omega) hok_x_L hoks_x_L
 refine Uw g1 ?_ ?_
 all_goals repeat intro hc
 ·exact ⟨-1,by simp [pf225],by omega,by omega,fun h => absurd h (by omega)⟩
 ·exact ⟨n1,by simp [pf225],by omega,by omega,fun _ => ⟨(s1 (by omega)).1,(s1 (by omega)).2⟩⟩

theorem t226 (k0 : Bool) (l : List XRow) (left : Int) (h0 : 0 ≤ left) (h1 : left ≤ 1048576) (hl : l.length ≤ 9223372036854775807) (hok : XRow.oks l) :
  ∃ n,Gw TT 226 [.one (.ro k0 (.sl 2 (l.map XRow.e))),vi left] = some (vi n,[]) ∧ -1 ≤ n ∧ n ≤ left ∧ (0 ≤ n → l.length ≤ 1048576 ∧ XRow.sms l):=by
 refine Gw_ofI (F:=pf226) rfl rfl ?_
 show Wp _ pb226 _ _
 unfold pb226
 have g:=Wi (left - (l.length : Int))
 refine Ud g ?_ ?_
 all_goals repeat intro hc
 ·exact ⟨-1,by simp [pf226],by omega,by omega,fun h => absurd h (by omega)⟩
 ·refine wp_loopI (σ:=List XRow × List XRow × Int) (fun s => [(0,AV.v k0 (D.sl 2 (List.map XRow.e l)),none),(1,AV.v false (di s.2.2),none),(5,AV.v false (di (s.1.length : Nat)),none)]) (fun s => l = s.1 ++ s.2.1 ∧ 0 ≤ s.2.2 ∧ s.2.2 ≤ left - (l.length : Int) ∧ XRow.sms s.1) (fun s => s.2.1.length) ([],l,left - (l.length : Int)) (by simp) ⟨rfl,by simp only; omega,by simp only; omega,fun y hy => by simp at hy⟩ ?_
  rintro ⟨pre,rest,lf⟩ ⟨h2,h3,h4,h5⟩
  simp only at h2 h3 h4 h5
  subst h2
  simp only [List.length_append,List.length_cons] at hl h4 g
  rcases rest with _ | ⟨⟨y_Id,y_L⟩,rest⟩
  ·unfold pl226_0
   refine Ud Oo ?_
   simp only [List.length_nil] at h4
   all_goals exact ⟨lf,by simp [pf226],by omega,by omega,fun _ => ⟨by simp; omega,by simpa using h5⟩⟩
  ·unfold pl226_0
   simp only [List.length_cons] at hl h4
   have hw:=Wi ((pre.length : Int) + 1)
   have hd:=hok ⟨y_Id,y_L⟩ (by simp)
   simp only [XRow.ok,and_assoc] at hd
   obtain ⟨hlo_y_Id,hhi_y_Id,hok_y_L,hoks_y_L⟩:=hd
   obtain ⟨n1,g1,a1,b1,s1⟩:=t225 k0 y_Id y_L lf (by omega) (by omega) hok_y_L hoks_y_L
   refine Ud (J2 g1 hw) ?_ ?_
   all_goals repeat intro hc
   ·exact ⟨-1,by simp [pf226],by omega,by omega,fun h => absurd h (by omega)⟩
   ·exact ⟨(pre ++ [⟨y_Id,y_L⟩],rest,n1),by simp,⟨by simp,by simp only; omega,by simp only [List.length_append,List.length_cons]; omega,fun y hy => by
     rcases List.mem_append.1 hy with hy | hy
     ·exact h5 y hy
     ·rw [List.mem_singleton.1 hy]
      simp only [XRow.sm,and_assoc]
      exact s1 (by omega)⟩,by simp⟩

theorem t215 (k0 : Bool) (l : List XDead) (left : Int) (h0 : 0 ≤ left) (h1 : left ≤ 1048576) (hl : l.length ≤ 9223372036854775807) :
  ∃ n,Gw TT 215 [.one (.ro k0 (.sl 3 (l.map XDead.e))),vi left] = some (vi n,[]) ∧ -1 ≤ n ∧ n ≤ left ∧ (0 ≤ n → l.length ≤ 1048576):=by
 refine Gw_ofI (F:=pf215) rfl rfl ?_
 show Wp _ pb215 _ _
 unfold pb215
 have g:=Wi (left - (l.length : Int))
 refine Uw g ?_ ?_
 all_goals repeat intro hc
 ·exact ⟨-1,by simp [pf215],by omega,by omega,fun h => absurd h (by omega)⟩
 ·exact ⟨left - (l.length : Int),by simp [pf215],by omega,by omega,fun _ => by omega⟩

theorem t223 (k0 : Bool) (l : List XRef) (left : Int) (h0 : 0 ≤ left) (h1 : left ≤ 1048576) (hl : l.length ≤ 9223372036854775807) :
  ∃ n,Gw TT 223 [.one (.ro k0 (.sl 5 (l.map XRef.e))),vi left] = some (vi n,[]) ∧ -1 ≤ n ∧ n ≤ left ∧ (0 ≤ n → l.length ≤ 1048576):=by
 refine Gw_ofI (F:=pf223) rfl rfl ?_
 show Wp _ pb223 _ _
 unfold pb223
 have g:=Wi (left - (l.length : Int))
 refine Uw g ?_ ?_
 all_goals repeat intro hc
 ·exact ⟨-1,by simp [pf223],by omega,by omega,fun h => absurd h (by omega)⟩
 ·exact ⟨left - (l.length : Int),by simp [pf223],by omega,by omega,fun _ => by omega⟩

theorem t218 (k0 : Bool) (x_Ver : Int) (x_L : List XRef) (left : Int) (h0 : 0 ≤ left) (h1 : left ≤ 1048576) (hok_x_L : x_L.length ≤ 9223372036854775807) :
  ∃ n,Gw TT 218 [.st [.ro false (di x_Ver),.ro k0 (.sl 5 (x_L.map XRef.e))],vi left] = some (vi n,[]) ∧ -1 ≤ n ∧ n ≤ left ∧ (0 ≤ n → x_L.length ≤ 1048576):=by
 refine Gw_ofI (F:=pf218) rfl rfl ?_
 show Wp _ pb218 _ _
 unfold pb218
 obtain ⟨n1,g1,a1,b1,s1⟩:=t223 k0 x_L left (by omega) (by omega) hok_x_L
 refine Uw g1 ?_ ?_
 all_goals repeat intro hc
 ·exact ⟨-1,by simp [pf218],by omega,by omega,fun h => absurd h (by omega)⟩
 ·exact ⟨n1,by simp [pf218],by omega,by omega,fun _ => (s1 (by omega))⟩

theorem t227 (k0 : Bool) (x_Ins : Int) (x_L : List XVal) (left : Int) (h0 : 0 ≤ left) (h1 : left ≤ 1048576) (hok_x_L : x_L.length ≤ 9223372036854775807) (hoks_x_L : XVal.oks x_L) :
  ∃ n,Gw TT 227 [.st [.ro false (di x_Ins),.ro k0 (.sl 3 (x_L.map XVal.e))],vi left] = some (vi n,[]) ∧ -1 ≤ n ∧ n ≤ left ∧ (0 ≤ n → x_L.length ≤ 1048576 ∧ XVal.sms x_L):=by
 refine Gw_ofI (F:=pf227) rfl rfl ?_
 show Wp _ pb227 _ _
 unfold pb227
 obtain ⟨n1,g1,a1,b1,s1⟩:=t232 k0 x_L left (by omega) (by omega) hok_x_L hoks_x_L
 refine Uw g1 ?_ ?_
 all_goals repeat intro hc
 ·exact ⟨-1,by simp [pf227],by omega,by omega,fun h => absurd h (by omega)⟩
 ·exact ⟨n1,by simp [pf227],by omega,by omega,fun _ => ⟨(s1 (by omega)).1,(s1 (by omega)).2⟩⟩

theorem t228 (k0 : Bool) (l : List XSlot) (left : Int) (h0 : 0 ≤ left) (h1 : left ≤ 1048576) (hl : l.length ≤ 9223372036854775807) (hok : XSlot.oks l) :
  ∃ n,Gw TT 228 [.one (.ro k0 (.sl 2 (l.map XSlot.e))),vi left] = some (vi n,[]) ∧ -1 ≤ n ∧ n ≤ left ∧ (0 ≤ n → l.length ≤ 1048576 ∧ XSlot.sms l):=by
 refine Gw_ofI (F:=pf228) rfl rfl ?_
 show Wp _ pb228 _ _
 unfold pb228
 have g:=Wi (left - (l.length : Int))
 refine Ud g ?_ ?_
 all_goals repeat intro hc
 ·exact ⟨-1,by simp [pf228],by omega,by omega,fun h => absurd h (by omega)⟩
 ·refine wp_loopI (σ:=List XSlot × List XSlot × Int) (fun s => [(0,AV.v k0 (D.sl 2 (List.map XSlot.e l)),none),(1,AV.v false (di s.2.2),none),(5,AV.v false (di (s.1.length : Nat)),none)]) (fun s => l = s.1 ++ s.2.1 ∧ 0 ≤ s.2.2 ∧ s.2.2 ≤ left - (l.length : Int) ∧ XSlot.sms s.1) (fun s => s.2.1.length) ([],l,left - (l.length : Int)) (by simp) ⟨rfl,by simp only; omega,by simp only; omega,fun y hy => by simp at hy⟩ ?_
  rintro ⟨pre,rest,lf⟩ ⟨h2,h3,h4,h5⟩
  simp only at h2 h3 h4 h5
  subst h2
  simp only [List.length_append,List.length_cons] at hl h4 g
  rcases rest with _ | ⟨⟨y_Ins,y_L⟩,rest⟩
  ·unfold pl228_0
   refine Ud Oo ?_
   simp only [List.length_nil] at h4
   all_goals exact ⟨lf,by simp [pf228],by omega,by omega,fun _ => ⟨by simp; omega,by simpa using h5⟩⟩
  ·unfold pl228_0
   simp only [List.length_cons] at hl h4
   have hw:=Wi ((pre.length : Int) + 1)
   have hd:=hok ⟨y_Ins,y_L⟩ (by simp)
   simp only [XSlot.ok,and_assoc] at hd
   obtain ⟨hlo_y_Ins,hhi_y_Ins,hok_y_L,hoks_y_L⟩:=hd
   obtain ⟨n1,g1,a1,b1,s1⟩:=t227 k0 y_Ins y_L lf (by omega) (by omega) hok_y_L hoks_y_L
   refine Ud (J2 g1 hw) ?_ ?_
   all_goals repeat intro hc
   ·exact ⟨-1,by simp [pf228],by omega,by omega,fun h => absurd h (by omega)⟩
   ·exact ⟨(pre ++ [⟨y_Ins,y_L⟩],rest,n1),by simp,⟨by simp,by simp only; omega,by simp only [List.length_append,List.length_cons]; omega,fun y hy => by
     rcases List.mem_append.1 hy with hy | hy
     ·exact h5 y hy
     ·rw [List.mem_singleton.1 hy]
      simp only [XSlot.sm,and_assoc]
      exact s1 (by omega)⟩,by simp⟩

theorem t213 (k0 : Bool) (x_Next : Int) (x_L : List XSlot) (left : Int) (h0 : 0 ≤ left) (h1 : left ≤ 1048576) (hok_x_L : x_L.length ≤ 9223372036854775807) (hoks_x_L : XSlot.oks x_L) :
  ∃ n,Gw TT 213 [.st [.ro false (di x_Next),.ro k0 (.sl 2 (x_L.map XSlot.e))],vi left] = some (vi n,[]) ∧ -1 ≤ n ∧ n ≤ left ∧ (0 ≤ n → x_L.length ≤ 1048576 ∧ XSlot.sms x_L):=by
 refine Gw_ofI (F:=pf213) rfl rfl ?_
 show Wp _ pb213 _ _
 unfold pb213
 obtain ⟨n1,g1,a1,b1,s1⟩:=t228 k0 x_L left (by omega) (by omega) hok_x_L hoks_x_L
 refine Uw g1 ?_ ?_
 all_goals repeat intro hc
 ·exact ⟨-1,by simp [pf213],by omega,by omega,fun h => absurd h (by omega)⟩
 ·exact ⟨n1,by simp [pf213],by omega,by omega,fun _ => ⟨(s1 (by omega)).1,(s1 (by omega)).2⟩⟩

theorem t210 (k0 : Bool) (x_Gen : Int) (x_Kind : Int) (x_C_Next : Int) (x_C_L : List XSlot) (x_G : List Int) (left : Int) (h0 : 0 ≤ left) (h1 : left ≤ 1048576) (hok_x_C_L : x_C_L.length ≤ 9223372036854775807) (hoks_x_C_L : XSlot.oks x_C_L) (hok_x_G : x_G.length ≤ 9223372036854775807) :
  ∃ n,Gw TT 210 [.st [.ro false (di x_Gen),.ro false (di x_Kind),.ro false (di x_C_Next),.ro k0 (.sl 2 (x_C_L.map XSlot.e)),.ro k0 (.sl 1 (x_G.map eb))],vi left] = some (vi n,[]) ∧ -1 ≤ n ∧ n ≤ left ∧ (0 ≤ n → x_C_L.length ≤ 1048576 ∧ XSlot.sms x_C_L ∧ x_G.length ≤ 1048576):=by
 refine Gw_ofI (F:=pf210) rfl rfl ?_
 show Wp _ pb210 _ _
 unfold pb210
 obtain ⟨n1,g1,a1,b1,s1⟩:=t213 k0 x_C_Next x_C_L left (by omega) (by omega) hok_x_C_L hoks_x_C_L
 refine Uw g1 ?_ ?_
 all_goals repeat intro hc
 ·exact ⟨-1,by simp [pf210],by omega,by omega,fun h => absurd h (by omega)⟩
 obtain ⟨n2,g2,a2,b2,s2⟩:=t212 k0 x_G n1 (by omega) (by omega) hok_x_G
 refine Uw g2 ?_ ?_
 all_goals repeat intro hc
 ·exact ⟨-1,by simp [pf210],by omega,by omega,fun h => absurd h (by omega)⟩
 ·exact ⟨n2,by simp [pf210],by omega,by omega,fun _ => ⟨(s1 (by omega)).1,(s1 (by omega)).2,(s2 (by omega))⟩⟩

theorem t211 (k0 : Bool) (l : List XBuf) (left : Int) (h0 : 0 ≤ left) (h1 : left ≤ 1048576) (hl : l.length ≤ 9223372036854775807) (hok : XBuf.oks l) :
  ∃ n,Gw TT 211 [.one (.ro k0 (.sl 5 (l.map XBuf.e))),vi left] = some (vi n,[]) ∧ -1 ≤ n ∧ n ≤ left ∧ (0 ≤ n → l.length ≤ 1048576 ∧ XBuf.sms l):=by
 refine Gw_ofI (F:=pf211) rfl rfl ?_
 show Wp _ pb211 _ _
 unfold pb211
 have g:=Wi (left - (l.length : Int))
 refine Ud g ?_ ?_
 all_goals repeat intro hc
 ·exact ⟨-1,by simp [pf211],by omega,by omega,fun h => absurd h (by omega)⟩
 ·refine wp_loopI (σ:=List XBuf × List XBuf × Int) (fun s => [(0,AV.v k0 (D.sl 5 (List.map XBuf.e l)),none),(1,AV.v false (di s.2.2),none),(5,AV.v false (di (s.1.length : Nat)),none)]) (fun s => l = s.1 ++ s.2.1 ∧ 0 ≤ s.2.2 ∧ s.2.2 ≤ left - (l.length : Int) ∧ XBuf.sms s.1) (fun s => s.2.1.length) ([],l,left - (l.length : Int)) (by simp) ⟨rfl,by simp only; omega,by simp only; omega,fun y hy => by simp at hy⟩ ?_
  rintro ⟨pre,rest,lf⟩ ⟨h2,h3,h4,h5⟩
  simp only at h2 h3 h4 h5
  subst h2
  simp only [List.length_append,List.length_cons] at hl h4 g
  rcases rest with _ | ⟨⟨y_Gen,y_Kind,⟨y_C_Next,y_C_L⟩,y_G⟩,rest⟩
  ·unfold pl211_0
   refine Ud Oo ?_
   simp only [List.length_nil] at h4
   all_goals exact ⟨lf,by simp [pf211],by omega,by omega,fun _ => ⟨by simp; omega,by simpa using h5⟩⟩
  ·unfold pl211_0
   simp only [List.length_cons] at hl h4
   have hw:=Wi ((pre.length : Int) + 1)
   have hd:=hok ⟨y_Gen,y_Kind,⟨y_C_Next,y_C_L⟩,y_G⟩ (by simp)
   simp only [XBuf.ok,XChunk.ok,and_assoc] at hd
   obtain ⟨hlo_y_Gen,hhi_y_Gen,hlo_y_Kind,hhi_y_Kind,hlo_y_C_Next,hhi_y_C_Next,hok_y_C_L,hoks_y_C_L,hok_y_G,hoki_y_G⟩:=hd
   obtain ⟨n1,g1,a1,b1,s1⟩:=t210 k0 y_Gen y_Kind y_C_Next y_C_L y_G lf (by omega) (by omega) hok_y_C_L hoks_y_C_L hok_y_G
   refine Ud (J2 g1 hw) ?_ ?_
   all_goals repeat intro hc
   ·exact ⟨-1,by simp [pf211],by omega,by omega,fun h => absurd h (by omega)⟩
   ·exact ⟨(pre ++ [⟨y_Gen,y_Kind,⟨y_C_Next,y_C_L⟩,y_G⟩],rest,n1),by simp,⟨by simp,by simp only; omega,by simp only [List.length_append,List.length_cons]; omega,fun y hy => by
     rcases List.mem_append.1 hy with hy | hy
     ·exact h5 y hy
     ·rw [List.mem_singleton.1 hy]
      simp only [XBuf.sm,XChunk.sm,and_assoc]
      exact s1 (by omega)⟩,by simp⟩

theorem t214 (k0 : Bool) (x_Cols : List Int) (x_Slots : Int) (x_Bufs : Int) (left : Int) (h0 : 0 ≤ left) (h1 : left ≤ 1048576) (hok_x_Cols : x_Cols.length ≤ 9223372036854775807) :
  ∃ n,Gw TT 214 [.st [.ro k0 (.sl 1 (x_Cols.map ei)),.ro false (di x_Slots),.ro false (di x_Bufs)],vi left] = some (vi n,[]) ∧ -1 ≤ n ∧ n ≤ left ∧ (0 ≤ n → x_Cols.length ≤ 1048576):=by
 refine Gw_ofI (F:=pf214) rfl rfl ?_
 show Wp _ pb214 _ _
 unfold pb214
 obtain ⟨n1,g1,a1,b1,s1⟩:=t219 k0 x_Cols left (by omega) (by omega) hok_x_Cols
 refine Uw g1 ?_ ?_
 all_goals repeat intro hc
 ·exact ⟨-1,by simp [pf214],by omega,by omega,fun h => absurd h (by omega)⟩
 ·exact ⟨n1,by simp [pf214],by omega,by omega,fun _ => (s1 (by omega))⟩

def SzPred (x : XPred) : Prop:=∀ (k0 : Bool) (left : Int),0 ≤ left → left ≤ 1048576 → x.ok → ∃ n,Gw TT 220 [.st [.ro false (di x.Kind),.ro false (di x.Col),.ro false (di x.Op),.ro false (di x.V.Ty),.ro false (di x.V.N),.ro false (.str x.V.S),.ro k0 (.sl 7 (x.L.map XPred.e))],vi left] = some (vi n,[]) ∧ -1 ≤ n ∧ n ≤ left ∧ (0 ≤ n → x.sm)
def SzPreds (l : List XPred) : Prop:=∀ (k0 : Bool) (left : Int),0 ≤ left → left ≤ 1048576 → l.length ≤ 9223372036854775807 → XPred.oks l →
  ∃ n,Gw TT 221 [.one (.ro k0 (.sl 7 (l.map XPred.e))),vi left] = some (vi n,[]) ∧ -1 ≤ n ∧ n ≤ left ∧ (0 ≤ n → l.length ≤ 1048576 ∧ XPred.sms l)

theorem SzPreds_of (l : List XPred) (IH : ∀ y ∈ l,SzPred y) : SzPreds l:=by
 intro k0 left h0 h1 hl hok
 refine Gw_ofI (F:=pf221) rfl rfl ?_
 show Wp _ pb221 _ _
 unfold pb221
 have g:=Wi (left - (l.length : Int))
 refine Ud g ?_ ?_
 all_goals repeat intro hc
 ·exact ⟨-1,by simp [pf221],by omega,by omega,fun h => absurd h (by omega)⟩
 ·refine wp_loopI (σ:=List XPred × List XPred × Int) (fun s => [(0,AV.v k0 (D.sl 7 (List.map XPred.e l)),none),(1,AV.v false (di s.2.2),none),(5,AV.v false (di (s.1.length : Nat)),none)]) (fun s => l = s.1 ++ s.2.1 ∧ 0 ≤ s.2.2 ∧ s.2.2 ≤ left - (l.length : Int) ∧ XPred.sms s.1) (fun s => s.2.1.length) ([],l,left - (l.length : Int)) (by simp) ⟨rfl,by simp only; omega,by simp only; omega,by simp [XPred.sms]⟩ ?_
  rintro ⟨pre,rest,lf⟩ ⟨h2,h3,h4,h5⟩
  simp only at h2 h3 h4 h5
  subst h2
  simp only [List.length_append,List.length_cons] at hl h4 g
  rcases rest with _ | ⟨⟨y_Kind,y_Col,y_Op,⟨y_V_Ty,y_V_N,y_V_S⟩,y_L⟩,rest⟩
  ·unfold pl221_0
   refine Ud Oo ?_
   simp only [List.length_nil] at h4
   all_goals exact ⟨lf,by simp [pf221],by omega,by omega,fun _ => ⟨by simp; omega,by simpa using h5⟩⟩
  ·unfold pl221_0
   simp only [List.length_cons] at hl h4
   have hw:=Wi ((pre.length : Int) + 1)
   obtain ⟨n1,g1,a1,b1,s1⟩:=IH ⟨y_Kind,y_Col,y_Op,⟨y_V_Ty,y_V_N,y_V_S⟩,y_L⟩ (by simp) k0 lf (by omega) (by omega) (XPred.oks_mem hok ⟨y_Kind,y_Col,y_Op,⟨y_V_Ty,y_V_N,y_V_S⟩,y_L⟩ (by simp))
   simp only at g1
   refine Ud (J2 g1 hw) ?_ ?_
   all_goals repeat intro hc
   ·exact ⟨-1,by simp [pf221],by omega,by omega,fun h => absurd h (by omega)⟩
   ·exact ⟨(pre ++ [⟨y_Kind,y_Col,y_Op,⟨y_V_Ty,y_V_N,y_V_S⟩,y_L⟩],rest,n1),by simp,⟨by simp,by simp only; omega,by simp only [List.length_append,List.length_cons]; omega,by
     rw [XPred.sms_eq]
     intro y hy
     rcases List.mem_append.1 hy with hy | hy
     ·exact XPred.sms_mem h5 y hy
     ·rw [List.mem_singleton.1 hy]
      exact s1 (by omega)⟩,by simp⟩

theorem SzPred_of (x : XPred) (IH : SzPreds x.L) : SzPred x:=by
 intro k0 left h0 h1 hx
 obtain ⟨x_Kind,x_Col,x_Op,⟨x_V_Ty,x_V_N,x_V_S⟩,x_L⟩:=x
 simp only [XPred.ok_eq,XVal.ok,and_assoc] at hx
 obtain ⟨hlo_x_Kind,hhi_x_Kind,hlo_x_Col,hhi_x_Col,hlo_x_Op,hhi_x_Op,hlo_x_V_Ty,hhi_x_V_Ty,hlo_x_V_N,hhi_x_V_N,hok_x_V_S,hok_x_L,hoks_x_L⟩:=hx
 refine Gw_ofI (F:=pf220) rfl rfl ?_
 show Wp _ pb220 _ _
 unfold pb220
 obtain ⟨n1,g1,a1,b1,s1⟩:=t231 x_V_Ty x_V_N x_V_S left (by omega) (by omega) hok_x_V_S
 refine Uw g1 ?_ ?_
 all_goals repeat intro hc
 ·exact ⟨-1,by simp [pf220],by omega,by omega,fun h => absurd h (by omega)⟩
 obtain ⟨n2,g2,a2,b2,s2⟩:=IH k0 n1 (by omega) (by omega) hok_x_L hoks_x_L
 simp only at g2
 refine Uw g2 ?_ ?_
 all_goals repeat intro hc
 ·exact ⟨-1,by simp [pf220],by omega,by omega,fun h => absurd h (by omega)⟩
 ·exact ⟨n2,by simp [pf220],by omega,by omega,fun _ => by simp only [XPred.sm_eq,XVal.sm,and_assoc]; exact ⟨(s1 (by omega)),(s2 (by omega)).1,(s2 (by omega)).2⟩⟩

theorem SzPred_all (x : XPred) : SzPred x :=
 SzPred_of x (SzPreds_of x.L fun y hy => SzPred_all y)
termination_by SizeOf.sizeOf x
decreasing_by
 have h1:=List.sizeOf_lt_of_mem hy
 have h2 : SizeOf.sizeOf x.L < SizeOf.sizeOf x:=by cases x; simp; omega
 omega

theorem SzPred_raw (x : XPred) (k0 : Bool) (left : Int) (h0 : 0 ≤ left) (h1 : left ≤ 1048576) (hv : x.V.S.size ≤ 9223372036854775807) (hL : x.L.length ≤ 9223372036854775807) (hs : XPred.oks x.L) :
  ∃ n,Gw TT 220 [.st [.ro false (di x.Kind),.ro false (di x.Col),.ro false (di x.Op),.ro false (di x.V.Ty),.ro false (di x.V.N),.ro false (.str x.V.S),.ro k0 (.sl 7 (x.L.map XPred.e))],vi left] = some (vi n,[]) ∧ -1 ≤ n ∧ n ≤ left ∧ (0 ≤ n → x.sm):=by
 have IH:=SzPreds_of x.L fun y _ => SzPred_all y
 obtain ⟨x_Kind,x_Col,x_Op,⟨x_V_Ty,x_V_N,x_V_S⟩,x_L⟩:=x
 have hok_x_V_S:=hv
 have hok_x_L:=hL
 have hoks_x_L:=hs
 simp only at hok_x_V_S hok_x_L hoks_x_L
 refine Gw_ofI (F:=pf220) rfl rfl ?_
 show Wp _ pb220 _ _
 unfold pb220
 obtain ⟨n1,g1,a1,b1,s1⟩:=t231 x_V_Ty x_V_N x_V_S left (by omega) (by omega) hok_x_V_S
 refine Uw g1 ?_ ?_
 all_goals repeat intro hc
 ·exact ⟨-1,by simp [pf220],by omega,by omega,fun h => absurd h (by omega)⟩
 obtain ⟨n2,g2,a2,b2,s2⟩:=IH k0 n1 (by omega) (by omega) hok_x_L hoks_x_L
 simp only at g2
 refine Uw g2 ?_ ?_
 all_goals repeat intro hc
 ·exact ⟨-1,by simp [pf220],by omega,by omega,fun h => absurd h (by omega)⟩
 ·exact ⟨n2,by simp [pf220],by omega,by omega,fun _ => by simp only [XPred.sm_eq,XVal.sm,and_assoc]; exact ⟨(s1 (by omega)),(s2 (by omega)).1,(s2 (by omega)).2⟩⟩

theorem t220 (k0 : Bool) (x_Kind : Int) (x_Col : Int) (x_Op : Int) (x_V_Ty : Int) (x_V_N : Int) (x_V_S : ByteArray) (x_L : List XPred) (left : Int) (h0 : 0 ≤ left) (h1 : left ≤ 1048576) (hok_x_V_S : x_V_S.size ≤ 9223372036854775807) (hok_x_L : x_L.length ≤ 9223372036854775807) (hoks_x_L : XPred.oks x_L) :
  ∃ n,Gw TT 220 [.st [.ro false (di x_Kind),.ro false (di x_Col),.ro false (di x_Op),.ro false (di x_V_Ty),.ro false (di x_V_N),.ro false (.str x_V_S),.ro k0 (.sl 7 (x_L.map XPred.e))],vi left] = some (vi n,[]) ∧ -1 ≤ n ∧ n ≤ left ∧ (0 ≤ n → x_V_S.size ≤ 1048576 ∧ x_L.length ≤ 1048576 ∧ XPred.sms x_L):=by
 obtain ⟨n,g,a,b,s⟩:=SzPred_raw ⟨x_Kind,x_Col,x_Op,⟨x_V_Ty,x_V_N,x_V_S⟩,x_L⟩ k0 left h0 h1 hok_x_V_S hok_x_L hoks_x_L
 exact ⟨n,g,a,b,fun h => by have:=s h; simp only [XPred.sm_eq,XVal.sm,and_assoc] at this; exact this⟩

theorem t221 (k0 : Bool) (l : List XPred) (left : Int) (h0 : 0 ≤ left) (h1 : left ≤ 1048576) (hl : l.length ≤ 9223372036854775807) (hok : XPred.oks l) :
  ∃ n,Gw TT 221 [.one (.ro k0 (.sl 7 (l.map XPred.e))),vi left] = some (vi n,[]) ∧ -1 ≤ n ∧ n ≤ left ∧ (0 ≤ n → l.length ≤ 1048576 ∧ XPred.sms l):=SzPreds_of l (fun y _ => SzPred_all y) k0 left h0 h1 hl hok

theorem t222 (k0 : Bool) (x_Kind : Int) (x_P_Kind : Int) (x_P_Col : Int) (x_P_Op : Int) (x_P_V_Ty : Int) (x_P_V_N : Int) (x_P_V_S : ByteArray) (x_P_L : List XPred) (x_Col : Int) (x_Out : List Int) (left : Int) (h0 : 0 ≤ left) (h1 : left ≤ 1048576) (hok_x_P_V_S : x_P_V_S.size ≤ 9223372036854775807) (hok_x_P_L : x_P_L.length ≤ 9223372036854775807) (hoks_x_P_L : XPred.oks x_P_L) (hok_x_Out : x_Out.length ≤ 9223372036854775807) :
  ∃ n,Gw TT 222 [.st [.ro false (di x_Kind),.ro false (di x_P_Kind),.ro false (di x_P_Col),.ro false (di x_P_Op),.ro false (di x_P_V_Ty),.ro false (di x_P_V_N),.ro false (.str x_P_V_S),.ro k0 (.sl 7 (x_P_L.map XPred.e)),.ro false (di x_Col),.ro k0 (.sl 1 (x_Out.map ei))],vi left] = some (vi n,[]) ∧ -1 ≤ n ∧ n ≤ left ∧ (0 ≤ n → x_P_V_S.size ≤ 1048576 ∧ x_P_L.length ≤ 1048576 ∧ XPred.sms x_P_L ∧ x_Out.length ≤ 1048576):=by
 refine Gw_ofI (F:=pf222) rfl rfl ?_
 show Wp _ pb222 _ _
 unfold pb222
 obtain ⟨n1,g1,a1,b1,s1⟩:=t220 k0 x_P_Kind x_P_Col x_P_Op x_P_V_Ty x_P_V_N x_P_V_S x_P_L left (by omega) (by omega) hok_x_P_V_S hok_x_P_L hoks_x_P_L
 refine Uw g1 ?_ ?_
 all_goals repeat intro hc
 ·exact ⟨-1,by simp [pf222],by omega,by omega,fun h => absurd h (by omega)⟩
 obtain ⟨n2,g2,a2,b2,s2⟩:=t219 k0 x_Out n1 (by omega) (by omega) hok_x_Out
 refine Uw g2 ?_ ?_
 all_goals repeat intro hc
 ·exact ⟨-1,by simp [pf222],by omega,by omega,fun h => absurd h (by omega)⟩
 ·exact ⟨n2,by simp [pf222],by omega,by omega,fun _ => ⟨(s1 (by omega)).1,(s1 (by omega)).2.1,(s1 (by omega)).2.2,(s2 (by omega))⟩⟩

theorem t224 (k0 : Bool) (x_Rows : List XRow) (x_N : Int) (x_Has : Bool) (x_V_Ty : Int) (x_V_N : Int) (x_V_S : ByteArray) (left : Int) (h0 : 0 ≤ left) (h1 : left ≤ 1048576) (hok_x_Rows : x_Rows.length ≤ 9223372036854775807) (hoks_x_Rows : XRow.oks x_Rows) (hok_x_V_S : x_V_S.size ≤ 9223372036854775807) :
  ∃ n,Gw TT 224 [.st [.ro k0 (.sl 2 (x_Rows.map XRow.e)),.ro false (di x_N),.ro false (.bool x_Has),.ro false (di x_V_Ty),.ro false (di x_V_N),.ro false (.str x_V_S)],vi left] = some (vi n,[]) ∧ -1 ≤ n ∧ n ≤ left ∧ (0 ≤ n → x_Rows.length ≤ 1048576 ∧ XRow.sms x_Rows ∧ x_V_S.size ≤ 1048576):=by
 refine Gw_ofI (F:=pf224) rfl rfl ?_
 show Wp _ pb224 _ _
 unfold pb224
 obtain ⟨n1,g1,a1,b1,s1⟩:=t226 k0 x_Rows left (by omega) (by omega) hok_x_Rows hoks_x_Rows
 refine Uw g1 ?_ ?_
 all_goals repeat intro hc
 ·exact ⟨-1,by simp [pf224],by omega,by omega,fun h => absurd h (by omega)⟩
 obtain ⟨n2,g2,a2,b2,s2⟩:=t231 x_V_Ty x_V_N x_V_S n1 (by omega) (by omega) hok_x_V_S
 refine Uw g2 ?_ ?_
 all_goals repeat intro hc
 ·exact ⟨-1,by simp [pf224],by omega,by omega,fun h => absurd h (by omega)⟩
 ·exact ⟨n2,by simp [pf224],by omega,by omega,fun _ => ⟨(s1 (by omega)).1,(s1 (by omega)).2,(s2 (by omega))⟩⟩

theorem t229 (k0 : Bool) (x_Op : Int) (x_Pc : Int) (x_H : Int) (x_R : List XVal) (x_Id : Int) (x_Q_Kind : Int) (x_Q_P_Kind : Int) (x_Q_P_Col : Int) (x_Q_P_Op : Int) (x_Q_P_V_Ty : Int) (x_Q_P_V_N : Int) (x_Q_P_V_S : ByteArray) (x_Q_P_L : List XPred) (x_Q_Col : Int) (x_Q_Out : List Int) (x_Ts : Int) (x_Ver : Int) (x_L : List XRef) (x_I : Int) (x_J : Int) (x_S : Int) (x_At : Int) (x_Own : Int) (x_Won : Bool) (x_Got : List XRow) (left : Int) (h0 : 0 ≤ left) (h1 : left ≤ 1048576) (hok_x_R : x_R.length ≤ 9223372036854775807) (hoks_x_R : XVal.oks x_R) (hok_x_Q_P_V_S : x_Q_P_V_S.size ≤ 9223372036854775807) (hok_x_Q_P_L : x_Q_P_L.length ≤ 9223372036854775807) (hoks_x_Q_P_L : XPred.oks x_Q_P_L) (hok_x_Q_Out : x_Q_Out.length ≤ 9223372036854775807) (hok_x_L : x_L.length ≤ 9223372036854775807) (hok_x_Got : x_Got.length ≤ 9223372036854775807) (hoks_x_Got : XRow.oks x_Got) :
  ∃ n,Gw TT 229 [.st [.ro false (di x_Op),.ro false (di x_Pc),.ro false (di x_H),.ro k0 (.sl 3 (x_R.map XVal.e)),.ro false (di x_Id),.ro false (di x_Q_Kind),.ro false (di x_Q_P_Kind),.ro false (di x_Q_P_Col),.ro false (di x_Q_P_Op),.ro false (di x_Q_P_V_Ty),.ro false (di x_Q_P_V_N),.ro false (.str x_Q_P_V_S),.ro k0 (.sl 7 (x_Q_P_L.map XPred.e)),.ro false (di x_Q_Col),.ro k0 (.sl 1 (x_Q_Out.map ei)),.ro false (di x_Ts),.ro false (di x_Ver),.ro k0 (.sl 5 (x_L.map XRef.e)),.ro false (di x_I),.ro false (di x_J),.ro false (di x_S),.ro false (di x_At),.ro false (di x_Own),.ro false (.bool x_Won),.ro k0 (.sl 2 (x_Got.map XRow.e))],vi left] = some (vi n,[]) ∧ -1 ≤ n ∧ n ≤ left ∧ (0 ≤ n → x_R.length ≤ 1048576 ∧ XVal.sms x_R ∧ x_Q_P_V_S.size ≤ 1048576 ∧ x_Q_P_L.length ≤ 1048576 ∧ XPred.sms x_Q_P_L ∧ x_Q_Out.length ≤ 1048576 ∧ x_L.length ≤ 1048576 ∧ x_Got.length ≤ 1048576 ∧ XRow.sms x_Got):=by
 refine Gw_ofI (F:=pf229) rfl rfl ?_
 show Wp _ pb229 _ _
 unfold pb229
 obtain ⟨n1,g1,a1,b1,s1⟩:=t232 k0 x_R left (by omega) (by omega) hok_x_R hoks_x_R
 refine Uw g1 ?_ ?_
 all_goals repeat intro hc
 ·exact ⟨-1,by simp [pf229],by omega,by omega,fun h => absurd h (by omega)⟩
 obtain ⟨n2,g2,a2,b2,s2⟩:=t222 k0 x_Q_Kind x_Q_P_Kind x_Q_P_Col x_Q_P_Op x_Q_P_V_Ty x_Q_P_V_N x_Q_P_V_S x_Q_P_L x_Q_Col x_Q_Out n1 (by omega) (by omega) hok_x_Q_P_V_S hok_x_Q_P_L hoks_x_Q_P_L hok_x_Q_Out
 refine Uw g2 ?_ ?_
 all_goals repeat intro hc
 ·exact ⟨-1,by simp [pf229],by omega,by omega,fun h => absurd h (by omega)⟩
 obtain ⟨n3,g3,a3,b3,s3⟩:=t223 k0 x_L n2 (by omega) (by omega) hok_x_L
 refine Uw g3 ?_ ?_
 all_goals repeat intro hc
 ·exact ⟨-1,by simp [pf229],by omega,by omega,fun h => absurd h (by omega)⟩
 obtain ⟨n4,g4,a4,b4,s4⟩:=t226 k0 x_Got n3 (by omega) (by omega) hok_x_Got hoks_x_Got
 refine Uw g4 ?_ ?_
 all_goals repeat intro hc
 ·exact ⟨-1,by simp [pf229],by omega,by omega,fun h => absurd h (by omega)⟩
 ·exact ⟨n4,by simp [pf229],by omega,by omega,fun _ => ⟨(s1 (by omega)).1,(s1 (by omega)).2,(s2 (by omega)).1,(s2 (by omega)).2.1,(s2 (by omega)).2.2.1,(s2 (by omega)).2.2.2,(s3 (by omega)),(s4 (by omega)).1,(s4 (by omega)).2⟩⟩

theorem t230 (k0 : Bool) (l : List XTask) (left : Int) (h0 : 0 ≤ left) (h1 : left ≤ 1048576) (hl : l.length ≤ 9223372036854775807) (hok : XTask.oks l) :
  ∃ n,Gw TT 230 [.one (.ro k0 (.sl 25 (l.map XTask.e))),vi left] = some (vi n,[]) ∧ -1 ≤ n ∧ n ≤ left ∧ (0 ≤ n → l.length ≤ 1048576 ∧ XTask.sms l):=by
 refine Gw_ofI (F:=pf230) rfl rfl ?_
 show Wp _ pb230 _ _
 unfold pb230
 have g:=Wi (left - (l.length : Int))
 refine Ud g ?_ ?_
 all_goals repeat intro hc
 ·exact ⟨-1,by simp [pf230],by omega,by omega,fun h => absurd h (by omega)⟩
 ·refine wp_loopI (σ:=List XTask × List XTask × Int) (fun s => [(0,AV.v k0 (D.sl 25 (List.map XTask.e l)),none),(1,AV.v false (di s.2.2),none),(5,AV.v false (di (s.1.length : Nat)),none)]) (fun s => l = s.1 ++ s.2.1 ∧ 0 ≤ s.2.2 ∧ s.2.2 ≤ left - (l.length : Int) ∧ XTask.sms s.1) (fun s => s.2.1.length) ([],l,left - (l.length : Int)) (by simp) ⟨rfl,by simp only; omega,by simp only; omega,fun y hy => by simp at hy⟩ ?_
  rintro ⟨pre,rest,lf⟩ ⟨h2,h3,h4,h5⟩
  simp only at h2 h3 h4 h5
  subst h2
  simp only [List.length_append,List.length_cons] at hl h4 g
  rcases rest with _ | ⟨⟨y_Op,y_Pc,y_H,y_R,y_Id,⟨y_Q_Kind,⟨y_Q_P_Kind,y_Q_P_Col,y_Q_P_Op,⟨y_Q_P_V_Ty,y_Q_P_V_N,y_Q_P_V_S⟩,y_Q_P_L⟩,y_Q_Col,y_Q_Out⟩,y_Ts,y_Ver,y_L,y_I,y_J,y_S,y_At,y_Own,y_Won,y_Got⟩,rest⟩
  ·unfold pl230_0
   refine Ud Oo ?_
   repeat intro hc
   simp only [List.length_nil] at h4
   all_goals exact ⟨lf,by simp [pf230],by omega,by omega,fun _ => ⟨by simp; omega,by simpa using h5⟩⟩
  ·unfold pl230_0
   simp only [List.length_cons] at hl h4
   have hw:=Wi ((pre.length : Int) + 1)
   have hd:=hok ⟨y_Op,y_Pc,y_H,y_R,y_Id,⟨y_Q_Kind,⟨y_Q_P_Kind,y_Q_P_Col,y_Q_P_Op,⟨y_Q_P_V_Ty,y_Q_P_V_N,y_Q_P_V_S⟩,y_Q_P_L⟩,y_Q_Col,y_Q_Out⟩,y_Ts,y_Ver,y_L,y_I,y_J,y_S,y_At,y_Own,y_Won,y_Got⟩ (by simp)
   simp only [XTask.ok,XQuery.ok,XPred.ok_eq,XVal.ok,and_assoc] at hd
   obtain ⟨hlo_y_Op,hhi_y_Op,hlo_y_Pc,hhi_y_Pc,hlo_y_H,hhi_y_H,hok_y_R,hoks_y_R,hlo_y_Id,hhi_y_Id,hlo_y_Q_Kind,hhi_y_Q_Kind,hlo_y_Q_P_Kind,hhi_y_Q_P_Kind,hlo_y_Q_P_Col,hhi_y_Q_P_Col,hlo_y_Q_P_Op,hhi_y_Q_P_Op,hlo_y_Q_P_V_Ty,hhi_y_Q_P_V_Ty,hlo_y_Q_P_V_N,hhi_y_Q_P_V_N,hok_y_Q_P_V_S,hok_y_Q_P_L,hoks_y_Q_P_L,hlo_y_Q_Col,hhi_y_Q_Col,hok_y_Q_Out,hoki_y_Q_Out,hlo_y_Ts,hhi_y_Ts,hlo_y_Ver,hhi_y_Ver,hok_y_L,hoks_y_L,hlo_y_I,hhi_y_I,hlo_y_J,hhi_y_J,hlo_y_S,hhi_y_S,hlo_y_At,hhi_y_At,hlo_y_Own,hhi_y_Own,hok_y_Got,hoks_y_Got⟩:=hd
   obtain ⟨n1,g1,a1,b1,s1⟩:=t229 k0 y_Op y_Pc y_H y_R y_Id y_Q_Kind y_Q_P_Kind y_Q_P_Col y_Q_P_Op y_Q_P_V_Ty y_Q_P_V_N y_Q_P_V_S y_Q_P_L y_Q_Col y_Q_Out y_Ts y_Ver y_L y_I y_J y_S y_At y_Own y_Won y_Got lf (by omega) (by omega) hok_y_R hoks_y_R hok_y_Q_P_V_S hok_y_Q_P_L hoks_y_Q_P_L hok_y_Q_Out hok_y_L hok_y_Got hoks_y_Got
   refine Ud (J2 g1 hw) ?_ ?_
   all_goals repeat intro hc
   ·exact ⟨-1,by simp [pf230],by omega,by omega,fun h => absurd h (by omega)⟩
   ·exact ⟨(pre ++ [⟨y_Op,y_Pc,y_H,y_R,y_Id,⟨y_Q_Kind,⟨y_Q_P_Kind,y_Q_P_Col,y_Q_P_Op,⟨y_Q_P_V_Ty,y_Q_P_V_N,y_Q_P_V_S⟩,y_Q_P_L⟩,y_Q_Col,y_Q_Out⟩,y_Ts,y_Ver,y_L,y_I,y_J,y_S,y_At,y_Own,y_Won,y_Got⟩],rest,n1),by simp,⟨by simp,by simp only; omega,by simp only [List.length_append,List.length_cons]; omega,fun y hy => by
     rcases List.mem_append.1 hy with hy | hy
     ·exact h5 y hy
     ·rw [List.mem_singleton.1 hy]
      simp only [XTask.sm,XQuery.sm,XPred.sm_eq,XVal.sm,and_assoc]
      exact s1 (by omega)⟩,by simp⟩

theorem t216 (k0 : Bool) (x_Op : Int) (x_Task : Int) (x_R : List XVal) (x_Id : Int) (x_Q_Kind : Int) (x_Q_P_Kind : Int) (x_Q_P_Col : Int) (x_Q_P_Op : Int) (x_Q_P_V_Ty : Int) (x_Q_P_V_N : Int) (x_Q_P_V_S : ByteArray) (x_Q_P_L : List XPred) (x_Q_Col : Int) (x_Q_Out : List Int) (x_Res_Rows : List XRow) (x_Res_N : Int) (x_Res_Has : Bool) (x_Res_V_Ty : Int) (x_Res_V_N : Int) (x_Res_V_S : ByteArray) (x_Code : Int) (x_Stamp : Int) (x_Inv : Int) (x_Lin : Int) (x_Ret : Int) (left : Int) (h0 : 0 ≤ left) (h1 : left ≤ 1048576) (hok_x_R : x_R.length ≤ 9223372036854775807) (hoks_x_R : XVal.oks x_R) (hok_x_Q_P_V_S : x_Q_P_V_S.size ≤ 9223372036854775807) (hok_x_Q_P_L : x_Q_P_L.length ≤ 9223372036854775807) (hoks_x_Q_P_L : XPred.oks x_Q_P_L) (hok_x_Q_Out : x_Q_Out.length ≤ 9223372036854775807) (hok_x_Res_Rows : x_Res_Rows.length ≤ 9223372036854775807) (hoks_x_Res_Rows : XRow.oks x_Res_Rows) (hok_x_Res_V_S : x_Res_V_S.size ≤ 9223372036854775807) :
  ∃ n,Gw TT 216 [.st [.ro false (di x_Op),.ro false (di x_Task),.ro k0 (.sl 3 (x_R.map XVal.e)),.ro false (di x_Id),.ro false (di x_Q_Kind),.ro false (di x_Q_P_Kind),.ro false (di x_Q_P_Col),.ro false (di x_Q_P_Op),.ro false (di x_Q_P_V_Ty),.ro false (di x_Q_P_V_N),.ro false (.str x_Q_P_V_S),.ro k0 (.sl 7 (x_Q_P_L.map XPred.e)),.ro false (di x_Q_Col),.ro k0 (.sl 1 (x_Q_Out.map ei)),.ro k0 (.sl 2 (x_Res_Rows.map XRow.e)),.ro false (di x_Res_N),.ro false (.bool x_Res_Has),.ro false (di x_Res_V_Ty),.ro false (di x_Res_V_N),.ro false (.str x_Res_V_S),.ro false (di x_Code),.ro false (di x_Stamp),.ro false (di x_Inv),.ro false (di x_Lin),.ro false (di x_Ret)],vi left] = some (vi n,[]) ∧ -1 ≤ n ∧ n ≤ left ∧ (0 ≤ n → x_R.length ≤ 1048576 ∧ XVal.sms x_R ∧ x_Q_P_V_S.size ≤ 1048576 ∧ x_Q_P_L.length ≤ 1048576 ∧ XPred.sms x_Q_P_L ∧ x_Q_Out.length ≤ 1048576 ∧ x_Res_Rows.length ≤ 1048576 ∧ XRow.sms x_Res_Rows ∧ x_Res_V_S.size ≤ 1048576):=by
 refine Gw_ofI (F:=pf216) rfl rfl ?_
 show Wp _ pb216 _ _
 unfold pb216
 obtain ⟨n1,g1,a1,b1,s1⟩:=t232 k0 x_R left (by omega) (by omega) hok_x_R hoks_x_R
 refine Uw g1 ?_ ?_
 all_goals repeat intro hc
 ·exact ⟨-1,by simp [pf216],by omega,by omega,fun h => absurd h (by omega)⟩
 obtain ⟨n2,g2,a2,b2,s2⟩:=t222 k0 x_Q_Kind x_Q_P_Kind x_Q_P_Col x_Q_P_Op x_Q_P_V_Ty x_Q_P_V_N x_Q_P_V_S x_Q_P_L x_Q_Col x_Q_Out n1 (by omega) (by omega) hok_x_Q_P_V_S hok_x_Q_P_L hoks_x_Q_P_L hok_x_Q_Out
 refine Uw g2 ?_ ?_
 all_goals repeat intro hc
 ·exact ⟨-1,by simp [pf216],by omega,by omega,fun h => absurd h (by omega)⟩
 obtain ⟨n3,g3,a3,b3,s3⟩:=t224 k0 x_Res_Rows x_Res_N x_Res_Has x_Res_V_Ty x_Res_V_N x_Res_V_S n2 (by omega) (by omega) hok_x_Res_Rows hoks_x_Res_Rows hok_x_Res_V_S
 refine Uw g3 ?_ ?_
 all_goals repeat intro hc
 ·exact ⟨-1,by simp [pf216],by omega,by omega,fun h => absurd h (by omega)⟩
 ·exact ⟨n3,by simp [pf216],by omega,by omega,fun _ => ⟨(s1 (by omega)).1,(s1 (by omega)).2,(s2 (by omega)).1,(s2 (by omega)).2.1,(s2 (by omega)).2.2.1,(s2 (by omega)).2.2.2,(s3 (by omega)).1,(s3 (by omega)).2.1,(s3 (by omega)).2.2⟩⟩

theorem t217 (k0 : Bool) (l : List XDeed) (left : Int) (h0 : 0 ≤ left) (h1 : left ≤ 1048576) (hl : l.length ≤ 9223372036854775807) (hok : XDeed.oks l) :
  ∃ n,Gw TT 217 [.one (.ro k0 (.sl 25 (l.map XDeed.e))),vi left] = some (vi n,[]) ∧ -1 ≤ n ∧ n ≤ left ∧ (0 ≤ n → l.length ≤ 1048576 ∧ XDeed.sms l):=by
 refine Gw_ofI (F:=pf217) rfl rfl ?_
 show Wp _ pb217 _ _
 unfold pb217
 have g:=Wi (left - (l.length : Int))
 refine Ud g ?_ ?_
 all_goals repeat intro hc
 ·exact ⟨-1,by simp [pf217],by omega,by omega,fun h => absurd h (by omega)⟩
 ·refine wp_loopI (σ:=List XDeed × List XDeed × Int) (fun s => [(0,AV.v k0 (D.sl 25 (List.map XDeed.e l)),none),(1,AV.v false (di s.2.2),none),(5,AV.v false (di (s.1.length : Nat)),none)]) (fun s => l = s.1 ++ s.2.1 ∧ 0 ≤ s.2.2 ∧ s.2.2 ≤ left - (l.length : Int) ∧ XDeed.sms s.1) (fun s => s.2.1.length) ([],l,left - (l.length : Int)) (by simp) ⟨rfl,by simp only; omega,by simp only; omega,fun y hy => by simp at hy⟩ ?_
  rintro ⟨pre,rest,lf⟩ ⟨h2,h3,h4,h5⟩
  simp only at h2 h3 h4 h5
  subst h2
  simp only [List.length_append,List.length_cons] at hl h4 g
  rcases rest with _ | ⟨⟨y_Op,y_Task,y_R,y_Id,⟨y_Q_Kind,⟨y_Q_P_Kind,y_Q_P_Col,y_Q_P_Op,⟨y_Q_P_V_Ty,y_Q_P_V_N,y_Q_P_V_S⟩,y_Q_P_L⟩,y_Q_Col,y_Q_Out⟩,⟨y_Res_Rows,y_Res_N,y_Res_Has,⟨y_Res_V_Ty,y_Res_V_N,y_Res_V_S⟩⟩,y_Code,y_Stamp,y_Inv,y_Lin,y_Ret⟩,rest⟩
  ·unfold pl217_0
   refine Ud Oo ?_
   repeat intro hc
   simp only [List.length_nil] at h4
   all_goals exact ⟨lf,by simp [pf217],by omega,by omega,fun _ => ⟨by simp; omega,by simpa using h5⟩⟩
  ·unfold pl217_0
   simp only [List.length_cons] at hl h4
   have hw:=Wi ((pre.length : Int) + 1)
   have hd:=hok ⟨y_Op,y_Task,y_R,y_Id,⟨y_Q_Kind,⟨y_Q_P_Kind,y_Q_P_Col,y_Q_P_Op,⟨y_Q_P_V_Ty,y_Q_P_V_N,y_Q_P_V_S⟩,y_Q_P_L⟩,y_Q_Col,y_Q_Out⟩,⟨y_Res_Rows,y_Res_N,y_Res_Has,⟨y_Res_V_Ty,y_Res_V_N,y_Res_V_S⟩⟩,y_Code,y_Stamp,y_Inv,y_Lin,y_Ret⟩ (by simp)
   simp only [XDeed.ok,XQuery.ok,XPred.ok_eq,XVal.ok,XResult.ok,and_assoc] at hd
   obtain ⟨hlo_y_Op,hhi_y_Op,hlo_y_Task,hhi_y_Task,hok_y_R,hoks_y_R,hlo_y_Id,hhi_y_Id,hlo_y_Q_Kind,hhi_y_Q_Kind,hlo_y_Q_P_Kind,hhi_y_Q_P_Kind,hlo_y_Q_P_Col,hhi_y_Q_P_Col,hlo_y_Q_P_Op,hhi_y_Q_P_Op,hlo_y_Q_P_V_Ty,hhi_y_Q_P_V_Ty,hlo_y_Q_P_V_N,hhi_y_Q_P_V_N,hok_y_Q_P_V_S,hok_y_Q_P_L,hoks_y_Q_P_L,hlo_y_Q_Col,hhi_y_Q_Col,hok_y_Q_Out,hoki_y_Q_Out,hok_y_Res_Rows,hoks_y_Res_Rows,hlo_y_Res_N,hhi_y_Res_N,hlo_y_Res_V_Ty,hhi_y_Res_V_Ty,hlo_y_Res_V_N,hhi_y_Res_V_N,hok_y_Res_V_S,hlo_y_Code,hhi_y_Code,hlo_y_Stamp,hhi_y_Stamp,hlo_y_Inv,hhi_y_Inv,hlo_y_Lin,hhi_y_Lin,hlo_y_Ret,hhi_y_Ret⟩:=hd
   obtain ⟨n1,g1,a1,b1,s1⟩:=t216 k0 y_Op y_Task y_R y_Id y_Q_Kind y_Q_P_Kind y_Q_P_Col y_Q_P_Op y_Q_P_V_Ty y_Q_P_V_N y_Q_P_V_S y_Q_P_L y_Q_Col y_Q_Out y_Res_Rows y_Res_N y_Res_Has y_Res_V_Ty y_Res_V_N y_Res_V_S y_Code y_Stamp y_Inv y_Lin y_Ret lf (by omega) (by omega) hok_y_R hoks_y_R hok_y_Q_P_V_S hok_y_Q_P_L hoks_y_Q_P_L hok_y_Q_Out hok_y_Res_Rows hoks_y_Res_Rows hok_y_Res_V_S
   refine Ud (J2 g1 hw) ?_ ?_
   all_goals repeat intro hc
   ·exact ⟨-1,by simp [pf217],by omega,by omega,fun h => absurd h (by omega)⟩
   ·exact ⟨(pre ++ [⟨y_Op,y_Task,y_R,y_Id,⟨y_Q_Kind,⟨y_Q_P_Kind,y_Q_P_Col,y_Q_P_Op,⟨y_Q_P_V_Ty,y_Q_P_V_N,y_Q_P_V_S⟩,y_Q_P_L⟩,y_Q_Col,y_Q_Out⟩,⟨y_Res_Rows,y_Res_N,y_Res_Has,⟨y_Res_V_Ty,y_Res_V_N,y_Res_V_S⟩⟩,y_Code,y_Stamp,y_Inv,y_Lin,y_Ret⟩],rest,n1),by simp,⟨by simp,by simp only; omega,by simp only [List.length_append,List.length_cons]; omega,fun y hy => by
     rcases List.mem_append.1 hy with hy | hy
     ·exact h5 y hy
     ·rw [List.mem_singleton.1 hy]
      simp only [XDeed.sm,XQuery.sm,XPred.sm_eq,XVal.sm,XResult.sm,and_assoc]
      exact s1 (by omega)⟩,by simp⟩

theorem t233 (k0 : Bool) (x_C_Cols : List Int) (x_C_Slots : Int) (x_C_Bufs : Int) (x_Time : Int) (x_T : Int) (x_E : Int) (x_Dd_Ver : Int) (x_Dd_L : List XRef) (x_B : List XBuf) (x_M : List Int) (x_X : List XDead) (x_P : List Int) (x_Tasks : List XTask) (x_Deeds : List XDeed) (left : Int) (h0 : 0 ≤ left) (h1 : left ≤ 1048576) (hok_x_C_Cols : x_C_Cols.length ≤ 9223372036854775807) (hok_x_Dd_L : x_Dd_L.length ≤ 9223372036854775807) (hok_x_B : x_B.length ≤ 9223372036854775807) (hoks_x_B : XBuf.oks x_B) (hok_x_M : x_M.length ≤ 9223372036854775807) (hok_x_X : x_X.length ≤ 9223372036854775807) (hok_x_P : x_P.length ≤ 9223372036854775807) (hok_x_Tasks : x_Tasks.length ≤ 9223372036854775807) (hoks_x_Tasks : XTask.oks x_Tasks) (hok_x_Deeds : x_Deeds.length ≤ 9223372036854775807) (hoks_x_Deeds : XDeed.oks x_Deeds) :
  ∃ n,Gw TT 233 [.st [.ro k0 (.sl 1 (x_C_Cols.map ei)),.ro false (di x_C_Slots),.ro false (di x_C_Bufs),.ro false (di x_Time),.ro false (di x_T),.ro false (di x_E),.ro false (di x_Dd_Ver),.ro k0 (.sl 5 (x_Dd_L.map XRef.e)),.ro k0 (.sl 5 (x_B.map XBuf.e)),.ro k0 (.sl 1 (x_M.map ei)),.ro k0 (.sl 3 (x_X.map XDead.e)),.ro k0 (.sl 1 (x_P.map ei)),.ro k0 (.sl 25 (x_Tasks.map XTask.e)),.ro k0 (.sl 25 (x_Deeds.map XDeed.e))],vi left] = some (vi n,[]) ∧ -1 ≤ n ∧ n ≤ left ∧ (0 ≤ n → x_C_Cols.length ≤ 1048576 ∧ x_Dd_L.length ≤ 1048576 ∧ x_B.length ≤ 1048576 ∧ XBuf.sms x_B ∧ x_M.length ≤ 1048576 ∧ x_X.length ≤ 1048576 ∧ x_P.length ≤ 1048576 ∧ x_Tasks.length ≤ 1048576 ∧ XTask.sms x_Tasks ∧ x_Deeds.length ≤ 1048576 ∧ XDeed.sms x_Deeds):=by
 refine Gw_ofI (F:=pf233) rfl rfl ?_
 show Wp _ pb233 _ _
 unfold pb233
 obtain ⟨n1,g1,a1,b1,s1⟩:=t214 k0 x_C_Cols x_C_Slots x_C_Bufs left (by omega) (by omega) hok_x_C_Cols
 refine Uw g1 ?_ ?_
 all_goals repeat intro hc
 ·exact ⟨-1,by simp [pf233],by omega,by omega,fun h => absurd h (by omega)⟩
 obtain ⟨n2,g2,a2,b2,s2⟩:=t218 k0 x_Dd_Ver x_Dd_L n1 (by omega) (by omega) hok_x_Dd_L
 refine Uw g2 ?_ ?_
 all_goals repeat intro hc
 ·exact ⟨-1,by simp [pf233],by omega,by omega,fun h => absurd h (by omega)⟩
 obtain ⟨n3,g3,a3,b3,s3⟩:=t211 k0 x_B n2 (by omega) (by omega) hok_x_B hoks_x_B
 refine Uw g3 ?_ ?_
 all_goals repeat intro hc
 ·exact ⟨-1,by simp [pf233],by omega,by omega,fun h => absurd h (by omega)⟩
 obtain ⟨n4,g4,a4,b4,s4⟩:=t219 k0 x_M n3 (by omega) (by omega) hok_x_M
 refine Uw g4 ?_ ?_
 all_goals repeat intro hc
 ·exact ⟨-1,by simp [pf233],by omega,by omega,fun h => absurd h (by omega)⟩
 obtain ⟨n5,g5,a5,b5,s5⟩:=t215 k0 x_X n4 (by omega) (by omega) hok_x_X
 refine Uw g5 ?_ ?_
 all_goals repeat intro hc
 ·exact ⟨-1,by simp [pf233],by omega,by omega,fun h => absurd h (by omega)⟩
 obtain ⟨n6,g6,a6,b6,s6⟩:=t219 k0 x_P n5 (by omega) (by omega) hok_x_P
 refine Uw g6 ?_ ?_
 all_goals repeat intro hc
 ·exact ⟨-1,by simp [pf233],by omega,by omega,fun h => absurd h (by omega)⟩
 obtain ⟨n7,g7,a7,b7,s7⟩:=t230 k0 x_Tasks n6 (by omega) (by omega) hok_x_Tasks hoks_x_Tasks
 refine Uw g7 ?_ ?_
 all_goals repeat intro hc
 ·exact ⟨-1,by simp [pf233],by omega,by omega,fun h => absurd h (by omega)⟩
 obtain ⟨n8,g8,a8,b8,s8⟩:=t217 k0 x_Deeds n7 (by omega) (by omega) hok_x_Deeds hoks_x_Deeds
 refine Uw g8 ?_ ?_
 all_goals repeat intro hc
 ·exact ⟨-1,by simp [pf233],by omega,by omega,fun h => absurd h (by omega)⟩
 ·exact ⟨n8,by simp [pf233],by omega,by omega,fun _ => ⟨(s1 (by omega)),(s2 (by omega)),(s3 (by omega)).1,(s3 (by omega)).2,(s4 (by omega)),(s5 (by omega)),(s6 (by omega)),(s7 (by omega)).1,(s7 (by omega)).2,(s8 (by omega)).1,(s8 (by omega)).2⟩⟩

@[simp] theorem t87 (x a b : Int) : Gw TT 87 [vi x,vi a,vi b] = some (vb (decide (a ≤ x) && decide (x ≤ b)),[]):=by
 refine Gw_of (F:=pf87) rfl rfl ?_
 show Wp _ pb87 _ _
 unfold pb87
 repeat' first|refine Zs ?_|((with_reducible refine Xk fun K k=>?_);simp;(repeat' (with_reducible first|refine k _ ?_|(refine psel ?_ ?_<;>(intro hc;(try rw [Decidable.not_not] at hc);first|(exfalso;omega)|(try simp [hc])))));all_goals clear k K)|refine Xt rfl ?_|refine Xf rfl ?_
 all_goals first | (simp_all [pf87]; done) | (simp_all [pf87]; omega)

@[simp] theorem t377 (x a b : Int) : Gw TT 377 [vi x,vi a,vi b] = some (vb (decide (a ≤ x) && decide (x ≤ b)),[]):=by
 refine Gw_of (F:=pf377) rfl rfl ?_
 show Wp _ pb377 _ _
 unfold pb377
 repeat' first|refine Zs ?_|((with_reducible refine Xk fun K k=>?_);simp;(repeat' (with_reducible first|refine k _ ?_|(refine psel ?_ ?_<;>(intro hc;(try rw [Decidable.not_not] at hc);first|(exfalso;omega)|(try simp [hc])))));all_goals clear k K)|refine Xt rfl ?_|refine Xf rfl ?_
 all_goals first | (simp_all [pf377]; done) | (simp_all [pf377]; omega)

def colsB : List Int → Bool
 | [] => true
 | p :: l => if p ≠ 1 ∧ p ≠ 2 then false else colsB l
def colsOk (l : List Int) : Bool:=colsB l && (decide (1 ≤ (l.length : Int)) && decide ((l.length : Int) ≤ 3))
def confOk (c : List Int) (s b : Int) : Bool:=colsOk c && (decide (1 ≤ s) && decide (s ≤ 4)) && (decide (1 ≤ b) && decide (b ≤ 8))

@[simp] theorem t12 (k0 : Bool) (l : List Int) (h : l.length ≤ 1048576) : Gw TT 12 [.one (.ro k0 (.sl 1 (l.map ei)))] = some (vb (colsOk l),[]):=by
 refine Gw_of (F:=pf12) rfl rfl ?_
 show Wp _ pb12 _ _
 unfold pb12
 repeat' first|refine Zs ?_|((with_reducible refine Xk fun K k=>?_);simp;(repeat' (with_reducible first|refine k _ ?_|(refine psel ?_ ?_<;>(intro hc;(try rw [Decidable.not_not] at hc);first|(exfalso;omega)|(try simp [hc])))));all_goals clear k K)|refine Xt rfl ?_|refine Xf rfl ?_|(refine We rfl ?_ ?_<;>(intro hc;(try simp at hc);(all_goals first|(exfalso;omega)|skip)))
 refine wp_loopI (σ:=List (Int) × List (Int)) (fun s => [(0,AV.v k0 (D.sl 1 (l.map ei)),none),(5,AV.v k0 (D.sl 1 (l.map ei)),none),(6,AV.v false (di (l.length : Nat)),none),(7,AV.v false (di ((s.1.length : Nat) : Int)),none)]) (fun s => l = s.1 ++ s.2 ∧ colsB s.2 = colsB l) (fun s => s.2.length) ([],l) (by simp) ⟨rfl,rfl⟩ ?_
 rintro ⟨pre,rest⟩ ⟨h1,h2⟩
 simp only at h1 h2
 subst h1
 simp only [List.length_append,List.length_cons] at h
 rcases rest with _ | ⟨d,rest⟩
 ·unfold pl12_0
  simp only [colsB] at h2
  repeat' first|refine Zs ?_|((with_reducible refine Xk fun K k=>?_);simp;(repeat' (with_reducible first|refine k _ ?_|(refine psel ?_ ?_<;>(intro hc;(try rw [Decidable.not_not] at hc);first|(exfalso;omega)|(try simp [hc])))));all_goals clear k K)|refine Xt rfl ?_|refine Xf rfl ?_|(refine We rfl ?_ ?_<;>(intro hc;(try simp at hc);(all_goals first|(exfalso;omega)|skip)))
  simp_all [pf12,colsOk]
 ·unfold pl12_0
  simp only [List.length_cons] at h
  simp only [colsB] at h2
  have hw:=Wi ((pre.length : Int) + 1) (by omega) (by omega)
  repeat' first|refine Zs ?_|((with_reducible refine Xk fun K k=>?_);simp [hw];(repeat' (with_reducible first|refine k _ ?_|(refine psel ?_ ?_<;>(intro hc;(try rw [Decidable.not_not] at hc);first|(exfalso;omega)|(try simp [hc,hw])))));all_goals clear k K)|refine Xt rfl ?_|refine Xf rfl ?_|(refine We rfl ?_ ?_<;>(intro hc;(try simp at hc);(all_goals first|(exfalso;omega)|skip)))
  all_goals first | (refine ⟨(pre ++ [d],rest),?_,⟨?_,?_⟩,?_⟩; (focus (first | (simp; done) | (simp_all; done))); (focus (simp; done)); (focus (refine Eq.trans ?_ h2; clear h2; first | (simp [*]; done) | (simp_all; done) | (split <;> simp_all <;> omega) | (split <;> first | (exfalso; omega) | (simp_all; done)))); (focus (simp; done))) | (simp_all [pf12,colsOk]; done)

@[simp] theorem t268 (k0 : Bool) (l : List Int) (h : l.length ≤ 1048576) : Gw TT 268 [.one (.ro k0 (.sl 1 (l.map ei)))] = some (vb (colsOk l),[]):=by
 refine Gw_of (F:=pf268) rfl rfl ?_
 show Wp _ pb268 _ _
 unfold pb268
 repeat' first|refine Zs ?_|((with_reducible refine Xk fun K k=>?_);simp;(repeat' (with_reducible first|refine k _ ?_|(refine psel ?_ ?_<;>(intro hc;(try rw [Decidable.not_not] at hc);first|(exfalso;omega)|(try simp [hc])))));all_goals clear k K)|refine Xt rfl ?_|refine Xf rfl ?_|(refine We rfl ?_ ?_<;>(intro hc;(try simp at hc);(all_goals first|(exfalso;omega)|skip)))
 refine wp_loopI (σ:=List (Int) × List (Int)) (fun s => [(0,AV.v k0 (D.sl 1 (l.map ei)),none),(3,AV.v false (di ((s.1.length : Nat) : Int)),none)]) (fun s => l = s.1 ++ s.2 ∧ colsB s.2 = colsB l) (fun s => s.2.length) ([],l) (by simp) ⟨rfl,rfl⟩ ?_
 rintro ⟨pre,rest⟩ ⟨h1,h2⟩
 simp only at h1 h2
 subst h1
 simp only [List.length_append,List.length_cons] at h
 rcases rest with _ | ⟨d,rest⟩
 ·unfold pl268_0
  simp only [colsB] at h2
  repeat' first|refine Zs ?_|((with_reducible refine Xk fun K k=>?_);simp;(repeat' (with_reducible first|refine k _ ?_|(refine psel ?_ ?_<;>(intro hc;(try rw [Decidable.not_not] at hc);first|(exfalso;omega)|(try simp [hc])))));all_goals clear k K)|refine Xt rfl ?_|refine Xf rfl ?_|(refine We rfl ?_ ?_<;>(intro hc;(try simp at hc);(all_goals first|(exfalso;omega)|skip)))
  simp_all [pf268,colsOk]
 ·unfold pl268_0
  simp only [List.length_cons] at h
  simp only [colsB] at h2
  have hw:=Wi ((pre.length : Int) + 1) (by omega) (by omega)
  repeat' first|refine Zs ?_|((with_reducible refine Xk fun K k=>?_);simp [hw];(repeat' (with_reducible first|refine k _ ?_|(refine psel ?_ ?_<;>(intro hc;(try rw [Decidable.not_not] at hc);first|(exfalso;omega)|(try simp [hc,hw])))));all_goals clear k K)|refine Xt rfl ?_|refine Xf rfl ?_|(refine We rfl ?_ ?_<;>(intro hc;(try simp at hc);(all_goals first|(exfalso;omega)|skip)))
  all_goals first | (refine ⟨(pre ++ [d],rest),?_,⟨?_,?_⟩,?_⟩; (focus (first | (simp; done) | (simp_all; done))); (focus (simp; done)); (focus (refine Eq.trans ?_ h2; clear h2; first | (simp [*]; done) | (simp_all; done) | (split <;> simp_all <;> omega) | (split <;> first | (exfalso; omega) | (simp_all; done)))); (focus (simp; done))) | (split at h2 <;> first | (exfalso; omega) | (simp_all [pf268,colsOk]; done))

attribute [irreducible] colsOk

theorem split_at {α : Type} (l : List α) (i : Nat) (h : i < l.length) : ∃ pre x rest,l = pre ++ x :: rest ∧ pre.length = i :=
 ⟨l.take i,l[i],l.drop (i + 1),by simp,by simp; omega⟩

def thereF (B : List XBuf) (buf gen kind many : Int) : Bool:=decide (0 ≤ buf) && match B[buf.toNat]? with
 | some b => b.Gen == gen && b.Kind == kind && (kind != 1 || (b.C.L.length : Int) == many)
 | none => false

theorem thereF_out {B : List XBuf} {buf gen kind many : Int} (h : ¬ (0 ≤ buf ∧ buf < (B.length : Int))) : thereF B buf gen kind many = false:=by
 unfold thereF
 by_cases h0 : 0 ≤ buf
 ·rw [List.getElem?_eq_none (by omega)]; simp
 ·simp [h0]

@[simp] theorem t59 (k0 : Bool) (x_C_Cols : List Int) (x_C_Slots : Int) (x_C_Bufs : Int) (x_Time : Int) (x_T : Int) (x_E : Int) (x_Dd_Ver : Int) (x_Dd_L : List XRef) (x_B : List XBuf) (x_M : List Int) (x_X : List XDead) (x_P : List Int) (x_Tasks : List XTask) (x_Deeds : List XDeed) (r_Buf : Int) (r_Gen : Int) (r_Kind : Int) (r_First : Int) (r_Many : Int) (h : x_B.length ≤ 1048576) : Gw TT 59 [.st [.ro k0 (.sl 1 (x_C_Cols.map ei)),.ro false (di x_C_Slots),.ro false (di x_C_Bufs),.ro false (di x_Time),.ro false (di x_T),.ro false (di x_E),.ro false (di x_Dd_Ver),.ro k0 (.sl 5 (x_Dd_L.map XRef.e)),.ro k0 (.sl 5 (x_B.map XBuf.e)),.ro k0 (.sl 1 (x_M.map ei)),.ro k0 (.sl 3 (x_X.map XDead.e)),.ro k0 (.sl 1 (x_P.map ei)),.ro k0 (.sl 25 (x_Tasks.map XTask.e)),.ro k0 (.sl 25 (x_Deeds.map XDeed.e))],.st [.ro false (di r_Buf),.ro false (di r_Gen),.ro false (di r_Kind),.ro false (di r_First),.ro false (di r_Many)]] = some (vb (thereF x_B r_Buf r_Gen r_Kind r_Many),[]):=by
 refine Ga pf59 pb59 ?_
 unfold pb59
 by_cases hb : 0 ≤ r_Buf ∧ r_Buf < (x_B.length : Int)
 ·obtain ⟨pre,b,rest,rfl,hp⟩:=split_at x_B r_Buf.toNat (by omega)
  obtain rfl : r_Buf = (pre.length : Int):=by omega
  simp only [List.length_append,List.length_cons] at h hb
  have hw:=Wi ((pre.length : Int) + ((rest.length : Int) + 1) - 1)
  refine Uc hw ?_ ?_ ?_ ?_
  all_goals repeat intro hc
  all_goals simp_all [pf59,thereF]
 ·have hf:=thereF_out (gen:=r_Gen) (kind:=r_Kind) (many:=r_Many) hb
  have hw:=Wi ((x_B.length : Int) - 1)
  refine Uc hw ?_ ?_
  all_goals repeat intro hc
  all_goals simp_all [pf59]

@[simp] theorem t340 (k0 : Bool) (x_C_Cols : List Int) (x_C_Slots : Int) (x_C_Bufs : Int) (x_Time : Int) (x_T : Int) (x_E : Int) (x_Dd_Ver : Int) (x_Dd_L : List XRef) (x_B : List XBuf) (x_M : List Int) (x_X : List XDead) (x_P : List Int) (x_Tasks : List XTask) (x_Deeds : List XDeed) (r_Buf : Int) (r_Gen : Int) (r_Kind : Int) (r_First : Int) (r_Many : Int) (h : x_B.length ≤ 1048576) : Gw TT 340 [.st [.ro k0 (.sl 1 (x_C_Cols.map ei)),.ro false (di x_C_Slots),.ro false (di x_C_Bufs),.ro false (di x_Time),.ro false (di x_T),.ro false (di x_E),.ro false (di x_Dd_Ver),.ro k0 (.sl 5 (x_Dd_L.map XRef.e)),.ro k0 (.sl 5 (x_B.map XBuf.e)),.ro k0 (.sl 1 (x_M.map ei)),.ro k0 (.sl 3 (x_X.map XDead.e)),.ro k0 (.sl 1 (x_P.map ei)),.ro k0 (.sl 25 (x_Tasks.map XTask.e)),.ro k0 (.sl 25 (x_Deeds.map XDeed.e))],.st [.ro false (di r_Buf),.ro false (di r_Gen),.ro false (di r_Kind),.ro false (di r_First),.ro false (di r_Many)]] = some (vb (thereF x_B r_Buf r_Gen r_Kind r_Many),[]):=by
 refine Ga pf340 pb340 ?_
 unfold pb340
 by_cases hb : 0 ≤ r_Buf ∧ r_Buf < (x_B.length : Int)
 ·obtain ⟨pre,b,rest,rfl,hp⟩:=split_at x_B r_Buf.toNat (by omega)
  obtain rfl : r_Buf = (pre.length : Int):=by omega
  simp only [List.length_append,List.length_cons] at h hb
  have hw:=Wi ((pre.length : Int) + ((rest.length : Int) + 1) - 1)
  refine Uc hw ?_ ?_ ?_ ?_
  all_goals repeat intro hc
  all_goals simp_all [pf340,thereF]
 ·have hf:=thereF_out (gen:=r_Gen) (kind:=r_Kind) (many:=r_Many) hb
  have hw:=Wi ((x_B.length : Int) - 1)
  refine Uc hw ?_
  repeat intro hc
  simp_all [pf340]

@[simp] theorem take_mid {α : Type} {n : Nat} (l r : List α) (h : n = l.length) : (l ++ r).take n = l:=by subst h; simp

def valEq (a b : XVal) : Bool:=a.Ty == b.Ty && (a.N == b.N && a.S.toList == b.S.toList)
def intEq (a b : Int) : Bool:=a == b

def strOf (l : List Int) : ByteArray:=⟨(l.map fun n => UInt8.ofNat n.toNat).toArray⟩

@[simp] theorem bytesStr_map (l : List Int) : bytesStr (l.map eb) = some (l.map fun n => UInt8.ofNat n.toNat):=by
 induction l with
 | nil => rfl
 | cons n l ih =>
  have : bytesStr (List.map eb (n :: l)) = match bytesStr (l.map eb) with
   | some bs => some (UInt8.ofNat n.toNat :: bs)
   | none => none:=rfl
  rw [this,ih]; try rfl

@[simp] theorem t1 (k0 k1 : Bool) (l m : List Int) : Gw TT 1 [.one (.ro k0 (.sl 1 (l.map eb))),.one (.ro k1 (.sl 1 (m.map eb)))] = some (vb ((strOf l).toList == (strOf m).toList),[]):=by
 refine Ga pf1 pb1 ?_
 unfold pb1
 refine Ua Oo ?_
 simp_all [pf1,strOf]

@[simp] theorem t402 (k0 k1 : Bool) (l m : List Int) : Gw TT 402 [.one (.ro k0 (.sl 1 (l.map eb))),.one (.ro k1 (.sl 1 (m.map eb)))] = some (vb ((strOf l).toList == (strOf m).toList),[]):=by
 refine Ga pf402 pb402 ?_
 unfold pb402
 refine Ua Oo ?_
 simp_all [pf402,strOf]

def isChunkB (B : List XBuf) (r : XRef) : Bool:=r.Kind == 1 && thereF B r.Buf r.Gen r.Kind r.Many

@[simp] theorem flatD_nil : flatD [] = true:=rfl

@[simp] theorem flatD_map {α : Type} (f : α → List D) (l : List α) (h : ∀ x,(f x).all D.scal = true) : flatD (l.map f) = true:=by
 simp only [flatD,List.all_map,List.all_eq_true,Function.comp]
 exact fun x _ => List.all_eq_true.1 (h x)

@[simp] theorem flatD_one (e : List D) (l : List (List D)) : flatD (e :: l) = (e.all D.scal && flatD l):=rfl

@[simp] theorem flatD_app (l m : List (List D)) : flatD (l ++ m) = (flatD l && flatD m):=by simp [flatD]

@[simp] theorem live_int (k : IntKind) (n : Int) : (D.int k n).live = true:=rfl

@[simp] theorem live_bool (b : Bool) : (D.bool b).live = true:=rfl

@[simp] theorem live_str (s : ByteArray) : (D.str s).live = true:=rfl

@[simp] theorem live_sl (sz : Nat) (es : List (List D)) : (D.sl sz es).live = true:=rfl

@[simp] theorem ba_one (x : UInt8) : (ByteArray.mk #[x]).size = 1:=rfl

@[simp] theorem take_all1 {α : Type} {n : Nat} (l r : List α) (x : α) (h : n = l.length + (r.length + 1)) : (l ++ x :: r).take n = l ++ x :: r:=by
 rw [List.take_of_length_le]
 simp only [List.length_append,List.length_cons]
 omega

@[simp] theorem drop_mid1 {α : Type} {n : Nat} (l r : List α) (x : α) (h : n = l.length + 1) : (l ++ x :: r).drop n = r:=by
 subst h
 rw [List.drop_append]
 simp

@[simp] theorem take_len_map {α β : Type} (f : α → β) (l : List α) : (l.map f).take l.length = l.map f:=by
 rw [List.take_of_length_le]; simp

@[simp] theorem flatD_drop_map {α : Type} (f : α → List D) (l : List α) (n : Nat) (h : ∀ x,(f x).all D.scal = true) : flatD ((l.map f).drop n) = true:=by
 rw [← List.map_drop]; exact flatD_map f _ h

@[simp] theorem flatD_take_map {α : Type} (f : α → List D) (l : List α) (n : Nat) (h : ∀ x,(f x).all D.scal = true) : flatD ((l.map f).take n) = true:=by
 rw [← List.map_take]; exact flatD_map f _ h

@[simp] theorem t76 (k0 : Bool) (l : List XVal) (h : l.length ≤ 1048576) : Gw TT 76 [.one (.ro k0 (.sl 3 (l.map XVal.e)))] = some (.one (.own (.sl 3 (l.map XVal.e))),[]):=by
  refine Gw_of (F:=pf76) rfl rfl ?_
  show Wp _ pb76 _ _
  unfold pb76
  repeat' first|refine Zs ?_|((with_reducible refine Xk fun K k=>?_);simp [h];(repeat' (with_reducible first|refine k _ ?_|(refine psel ?_ ?_<;>(intro hc;(try rw [Decidable.not_not] at hc);first|(exfalso;omega)|(try simp [hc,h])))));all_goals clear k K)|refine Xt rfl ?_|refine Xf rfl ?_
  simp [pf76]

@[simp] theorem t69 (k0 : Bool) (l : List Int) (h : l.length ≤ 1048576) : Gw TT 69 [.one (.ro k0 (.sl 1 (l.map eb)))] = some (.one (.own (.sl 1 (l.map eb))),[]):=by
  refine Gw_of (F:=pf69) rfl rfl ?_
  show Wp _ pb69 _ _
  unfold pb69
  repeat' first|refine Zs ?_|((with_reducible refine Xk fun K k=>?_);simp [h];(repeat' (with_reducible first|refine k _ ?_|(refine psel ?_ ?_<;>(intro hc;(try rw [Decidable.not_not] at hc);first|(exfalso;omega)|(try simp [hc,h])))));all_goals clear k K)|refine Xt rfl ?_|refine Xf rfl ?_
  simp [pf69]

theorem bl_loop (bs : ByteArray) : ∀ (k i : Nat) (r : List UInt8),bs.size - i = k → (ByteArray.toList.loop bs i r).length = k + r.length
 | 0,i,r,h => by
  rw [ByteArray.toList.loop,if_neg (by omega)]; simp
 | k + 1,i,r,h => by
  rw [ByteArray.toList.loop,if_pos (by omega),bl_loop bs k (i + 1) _ (by omega)]; simp; omega

theorem bl_len (bs : ByteArray) : bs.toList.length = bs.size:=by
 unfold ByteArray.toList
 rw [bl_loop bs bs.size 0 [] (by omega)]; simp

def okc (b : UInt8) : Bool:=decide ((97 ≤ b.toNat ∧ b.toNat ≤ 122) ∨ (48 ≤ b.toNat ∧ b.toNat ≤ 57))

def textB : List UInt8 → Bool
 | [] => true
 | b :: l => if okc b = true then textB l else false

def numB (n : Int) : Bool:=decide (-1000000000 ≤ n) && decide (n ≤ 1000000000)

def valOkF (ty n : Int) (s : ByteArray) : Bool:=if ty = 1 then numB n && (s.toList == (⟨#[]⟩ : ByteArray).toList) else (decide (ty = 2) && (decide (n = 0) && (decide (s.size ≤ 6) && textB s.toList)))

@[simp] theorem t79 (n : Int) : Gw TT 79 [vi n] = some (vb (numB n),[]):=by
 refine Ga pf79 pb79 ?_
 unfold pb79
 refine Uw Oo ?_
 simp [pf79,numB]

@[simp] theorem t384 (n : Int) : Gw TT 384 [vi n] = some (vb (numB n),[]):=by
 refine Ga pf384 pb384 ?_
 unfold pb384
 refine Uw Oo ?_
 simp [pf384,numB]

@[simp] theorem t60 (x_Ty : Int) (x_N : Int) (x_S : ByteArray) (h : x_S.size ≤ 1048576) : Gw TT 60 [.st [.ro false (di x_Ty),.ro false (di x_N),.ro false (.str x_S)]] = some (vb (valOkF x_Ty x_N x_S),[]):=by
 refine Ga pf60 pb60 ?_
 unfold pb60
 by_cases u1 : x_Ty = 1
 ·refine Uc u1 ?_ ?_
  all_goals repeat intro hc
  all_goals simp_all [pf60,valOkF]
 ·by_cases u2 : x_Ty = 2
  ·refine Uc (J2 u1 u2) ?_
   repeat intro hc
   refine wp_loopI (σ:=List UInt8 × List UInt8) (fun s => [(1,AV.bx 1 0,some (Rt.bx [.ro false (di x_Ty),.ro false (di x_N),.ro false (.str x_S)])),(3,AV.v false (di ((s.1.length : Nat) : Int)),none)]) (fun s => x_S.toList = s.1 ++ s.2 ∧ textB s.2 = textB x_S.toList) (fun s => s.2.length) ([],x_S.toList) (by simp [u2]) ⟨rfl,rfl⟩ ?_
   rintro ⟨pre,rest⟩ ⟨h1,h2⟩
   simp only at h1 h2
   have hl:=bl_len x_S
   rw [h1,List.length_append] at hl
   rcases rest with _ | ⟨d,rest⟩
   ·simp only [List.length_nil] at hl
    simp only [textB] at h2
    have hsz : (x_S.size : Int) = (pre.length : Int):=by omega
    unfold pl60_0
    by_cases q1 : pre.length ≤ 6
    ·have q2 : x_S.size ≤ 6:=by omega
     have q3 : (pre.length : Int) ≤ 6:=by omega
     refine Uc (J4 hsz q1 q2 q3) ?_
     repeat intro hc
     by_cases z : x_N = 0 <;> simp_all [pf60,valOkF]
    ·have q2 : ¬ x_S.size ≤ 6:=by omega
     have q3 : ¬ (pre.length : Int) ≤ 6:=by omega
     refine Uc (J4 hsz q1 q2 q3) ?_
     repeat intro hc
     simp_all [pf60,valOkF]
   ·simp only [List.length_cons] at hl
    simp only [textB] at h2
    have hg : x_S.toList[pre.length]? = some d:=by rw [h1]; simp
    have hlt : (pre.length : Int) < (x_S.size : Int):=by omega
    have hlt2 : pre.length < x_S.size:=by omega
    have hw:=Wi ((pre.length : Int) + 1)
    unfold pl60_0
    by_cases o : okc d = true
    ·rw [if_pos o] at h2
     simp only [okc,decide_eq_true_eq] at o
     refine Uc (J4 hg hlt hlt2 hw) ?_ ?_
     all_goals repeat intro hc
     all_goals exact ⟨(pre ++ [d],rest),by simp,⟨by rw [h1]; simp,h2⟩,by simp⟩
    ·rw [if_neg o] at h2
     have o2:=o
     simp only [okc,decide_eq_true_eq] at o2
     refine Uc (J4 hg hlt hlt2 hw) ?_ ?_ ?_
     all_goals repeat intro hc
     all_goals simp [pf60,valOkF,u1,u2,← h2]
  ·refine Uc (J2 u1 u2) ?_
   repeat intro hc
   simp [pf60,valOkF,u1,u2]

@[simp] theorem t341 (x_Ty : Int) (x_N : Int) (x_S : ByteArray) (h : x_S.size ≤ 1048576) : Gw TT 341 [.st [.ro false (di x_Ty),.ro false (di x_N),.ro false (.str x_S)]] = some (vb (valOkF x_Ty x_N x_S),[]):=by
 refine Ga pf341 pb341 ?_
 unfold pb341
 by_cases u1 : x_Ty = 1
 ·refine Uc u1 ?_ ?_
  all_goals repeat intro hc
  all_goals simp_all [pf341,valOkF]
 ·refine Uc u1 ?_
  repeat intro hc
  refine wp_loopI (σ:=List UInt8 × List UInt8) (fun s => [(1,AV.bx 1 0,some (Rt.bx [.ro false (di x_Ty),.ro false (di x_N),.ro false (.str x_S)])),(3,AV.v false (di ((s.1.length : Nat) : Int)),none)]) (fun s => x_S.toList = s.1 ++ s.2 ∧ textB s.2 = textB x_S.toList) (fun s => s.2.length) ([],x_S.toList) (by simp ) ⟨rfl,rfl⟩ ?_
  rintro ⟨pre,rest⟩ ⟨h1,h2⟩
  simp only at h1 h2
  have hl:=bl_len x_S
  rw [h1,List.length_append] at hl
  rcases rest with _ | ⟨d,rest⟩
  ·simp only [List.length_nil] at hl
   simp only [textB] at h2
   have hsz : (x_S.size : Int) = (pre.length : Int):=by omega
   unfold pl341_0
   by_cases q1 : pre.length ≤ 6
   ·have q2 : x_S.size ≤ 6:=by omega
    have q3 : (pre.length : Int) ≤ 6:=by omega
    refine Uc (J4 hsz q1 q2 q3) ?_ ?_ ?_
    all_goals repeat intro hc
    all_goals simp_all [pf341,valOkF]
   ·have q2 : ¬ x_S.size ≤ 6:=by omega
    have q3 : ¬ (pre.length : Int) ≤ 6:=by omega
    refine Uc (J4 hsz q1 q2 q3) ?_ ?_ ?_
    all_goals repeat intro hc
    all_goals simp_all [pf341,valOkF]
  ·simp only [List.length_cons] at hl
   simp only [textB] at h2
   have hg : x_S.toList[pre.length]? = some d:=by rw [h1]; simp
   have hlt : (pre.length : Int) < (x_S.size : Int):=by omega
   have hlt2 : pre.length < x_S.size:=by omega
   have hw:=Wi ((pre.length : Int) + 1)
   have hwd : IntKind.wrap .i64 (d.toNat : Int) = (d.toNat : Int):=wrap_i64 (by omega) (by have:=d.toNat_lt; omega)
   unfold pl341_0
   by_cases q1 : pre.length ≤ 6
   ·have q3 : (pre.length : Int) ≤ 6:=by omega
    by_cases o : okc d = true
    ·rw [if_pos o] at h2
     simp only [okc,decide_eq_true_eq] at o
     refine Uc (J7 hg hlt hlt2 hw hwd q1 q3) ?_ ?_
     all_goals repeat intro hc
     all_goals exact ⟨(pre ++ [d],rest),by simp,⟨by rw [h1]; simp,h2⟩,by simp⟩
    ·rw [if_neg o] at h2
     have o2:=o
     simp only [okc,decide_eq_true_eq] at o2
     refine Uc (J7 hg hlt hlt2 hw hwd q1 q3) ?_
     repeat intro hc
     simp [pf341,valOkF,u1,← h2]
   ·have q3 : ¬ (pre.length : Int) ≤ 6:=by omega
    have q2 : ¬ x_S.size ≤ 6:=by omega
    have q4 : ¬ (x_S.size : Int) ≤ 6:=by omega
    refine Uc (J8 hg hlt hlt2 hw hwd q1 q3 q4) ?_ ?_ ?_
    all_goals repeat intro hc
    all_goals simp [pf341,valOkF,u1,q2,q4,q3]

def fitsL : List Int → List XVal → Bool
  | _,[] => true
  | [],_ :: _ => false
  | b :: bs,v :: l => if valOkF v.Ty v.N v.S = true ∧ v.Ty = b then fitsL bs l else false

def fitsF (cols : List Int) (l : List XVal) : Bool:=decide (l.length = cols.length) && fitsL cols l

@[simp] theorem t19 (k0 k1 : Bool) (cols : List Int) (l : List XVal) (h : cols.length ≤ 1048576) (h5 : l.length ≤ 1048576) (hs : XVal.sms l) : Gw TT 19 [.one (.ro k0 (.sl 1 (cols.map ei))),.one (.ro k1 (.sl 3 (l.map XVal.e)))] = some (vb (fitsF cols l),[]):=by
  refine Ga pf19 pb19 ?_
  unfold pb19
  by_cases y0 : l.length = cols.length
  · have y1 : (l.length : Int) = (cols.length : Int):=by omega
    refine Uw y1 ?_
    repeat intro hc
    refine wp_loopI (σ:=List Int × List Int × List XVal × List XVal) (fun s => [(0,AV.v k0 (D.sl 1 (cols.map ei)),none),(12,AV.v k1 (D.sl 3 (l.map XVal.e)),none),(13,AV.v false (di (l.length : Nat)),none),(14,AV.v false (di ((s.2.2.1.length : Nat) : Int)),none)]) (fun s => cols = s.1 ++ s.2.1 ∧ l = s.2.2.1 ++ s.2.2.2 ∧ s.1.length = s.2.2.1.length ∧ fitsL s.2.1 s.2.2.2 = fitsL cols l) (fun s => s.2.2.2.length) ([],cols,[],l) (by simp [y1]) ⟨rfl,rfl,rfl,rfl⟩ ?_
    rintro ⟨p1,r1,p2,r2⟩ ⟨h1,h2,h3,h4⟩
    simp only at h1 h2 h3 h4
    have y2 : cols.length = p1.length + r1.length:=by rw [h1,List.length_append]
    have y3 : l.length = p2.length + r2.length:=by rw [h2,List.length_append]
    rcases r2 with _ | ⟨d,r2⟩
    · simp only [List.length_nil] at y3
      simp only [fitsL] at h4
      have y4 : ¬ (p2.length : Int) < (l.length : Int):=by omega
      unfold pl19_0
      refine Uw y4 ?_
      repeat intro hc
      simp [pf19,fitsF,y0,← h4]
    · rcases r1 with _ | ⟨b,r1⟩
      · simp only [List.length_nil,List.length_cons] at y2 y3; omega
      simp only [List.length_cons] at y2 y3
      have hd:=hs d (by rw [h2]; simp)
      simp only [XVal.sm] at hd
      simp only [fitsL] at h4
      have hg1 : cols[p2.length]? = some b:=by rw [h1,← h3]; simp
      have hg2 : l[p2.length]? = some d:=by rw [h2]; simp
      obtain ⟨hlt2,he1⟩:=List.getElem?_eq_some_iff.1 hg1
      obtain ⟨hlt,he2⟩:=List.getElem?_eq_some_iff.1 hg2
      have y4 : (p2.length : Int) < (l.length : Int):=by omega
      have y5 : (p2.length : Int) < (cols.length : Int):=by omega
      have hw : IntKind.wrap .i64 ((p2.length : Int) + 1) = (p2.length : Int) + 1:=wrap_i64 (by omega) (by omega)
      unfold pl19_0
      by_cases o1 : valOkF d.Ty d.N d.S = true
      · by_cases o2 : d.Ty = b
        · rw [if_pos ⟨o1,o2⟩] at h4
          have o3 : valOkF b d.N d.S = true:=o2 ▸ o1
          refine Uw (J8 hg1 hg2 he1 he2 hlt hlt2 y4 (J6 y5 hw hd o1 o2 o3)) ?_
          repeat intro hc
          exact ⟨(p1 ++ [b],r1,p2 ++ [d],r2),by simp,⟨by rw [h1]; simp,by rw [h2]; simp,by simp [h3],h4⟩,by simp⟩
        · rw [if_neg (fun q => o2 q.2)] at h4
          have o4 : (d.Ty == b) = false:=by simpa using o2
          have o5 : (d.Ty != b) = true:=by simpa using o2
          refine Uw (J8 hg1 hg2 he1 he2 hlt hlt2 y4 (J6 y5 hw hd o1 o4 o5)) ?_
          repeat intro hc
          simp [pf19,fitsF,y0,← h4]
      · rw [if_neg (fun q => o1 q.1)] at h4
        have o3 : valOkF d.Ty d.N d.S = false:=by simpa using o1
        refine Uw (J8 hg1 hg2 he1 he2 hlt hlt2 y4 (J4 y5 hw hd o3)) ?_
        repeat intro hc
        simp [pf19,fitsF,y0,← h4]
  · have y1 : ¬ (l.length : Int) = (cols.length : Int):=by omega
    have y2 : ¬ (cols.length : Int) = (l.length : Int):=by omega
    repeat' (first
      | with_reducible (first | refine wp_seq ?_ | refine wp_blk ?_ | refine wp_skip ?_ | refine wp_exit ?_ | refine wp_ret ?_ | refine seqQ_norm ?_ | refine seqQ_ret ?_ | refine seqQ_exit ?_ | refine blkQ_norm ?_ | refine blkQ_ret ?_ | refine blkQ_exit ?_ | refine loopQ_norm ?_ | refine loopQ_exit ?_ | refine loopQ_ret ?_ | refine endQ_ret ?_ | refine endQ_norm ?_ | refine endE_ret ?_ | refine endE_norm ?_ | refine endI_ret ?_ | refine endI_norm ?_)
      | (with_reducible refine wp_loop (c:=pl19_0) ?_
         conv => arg 2; unfold pl19_0)
      | (with_reducible refine wp_regK fun K hK => ?_
         simp[y1,y2]
         repeat' (with_reducible first | refine hK _ ?_ | (refine psel ?_ ?_ <;> (intro hc; (try rw [Decidable.not_not] at hc); first | (exfalso; omega) | (try simp [hc,y1,y2]))))
         all_goals (clear hK; clear K))
      | (with_reducible refine wp_condE ?_
         refine ⟨_,rfl,?_,?_⟩ <;> (intro hc; (try simp at hc); (all_goals first | (exfalso; omega) | skip))))
    simp [pf19,fitsF,y0]

@[simp] theorem t298 (k0 k1 : Bool) (cols : List Int) (l : List XVal) (h : cols.length ≤ 1048576) (h5 : l.length ≤ 1048576) (hs : XVal.sms l) : Gw TT 298 [.one (.ro k0 (.sl 1 (cols.map ei))),.one (.ro k1 (.sl 3 (l.map XVal.e)))] = some (vb (fitsF cols l),[]):=by
  refine Ga pf298 pb298 ?_
  unfold pb298
  by_cases y0 : l.length = cols.length
  · have y1 : (l.length : Int) = (cols.length : Int):=by omega
    refine Uw y1 ?_
    repeat intro hc
    refine wp_loopI (σ:=List Int × List Int × List XVal × List XVal) (fun s => [(0,AV.v k0 (D.sl 1 (cols.map ei)),none),(1,AV.v k1 (D.sl 3 (l.map XVal.e)),none),(5,AV.v false (di ((s.2.2.1.length : Nat) : Int)),none)]) (fun s => cols = s.1 ++ s.2.1 ∧ l = s.2.2.1 ++ s.2.2.2 ∧ s.1.length = s.2.2.1.length ∧ fitsL s.2.1 s.2.2.2 = fitsL cols l) (fun s => s.2.2.2.length) ([],cols,[],l) (by simp [y1]) ⟨rfl,rfl,rfl,rfl⟩ ?_
    rintro ⟨p1,r1,p2,r2⟩ ⟨h1,h2,h3,h4⟩
    simp only at h1 h2 h3 h4
    have y2 : cols.length = p1.length + r1.length:=by rw [h1,List.length_append]
    have y3 : l.length = p2.length + r2.length:=by rw [h2,List.length_append]
    rcases r2 with _ | ⟨d,r2⟩
    · simp only [List.length_nil] at y3
      simp only [fitsL] at h4
      have y4 : ¬ (p2.length : Int) < (l.length : Int):=by omega
      unfold pl298_0
      refine Uw y4 ?_
      repeat intro hc
      simp [pf298,fitsF,y0,← h4]
    · rcases r1 with _ | ⟨b,r1⟩
      · simp only [List.length_nil,List.length_cons] at y2 y3; omega
      simp only [List.length_cons] at y2 y3
      have hd:=hs d (by rw [h2]; simp)
      simp only [XVal.sm] at hd
      simp only [fitsL] at h4
      have hg1 : cols[p2.length]? = some b:=by rw [h1,← h3]; simp
      have hg2 : l[p2.length]? = some d:=by rw [h2]; simp
      obtain ⟨hlt2,he1⟩:=List.getElem?_eq_some_iff.1 hg1
      obtain ⟨hlt,he2⟩:=List.getElem?_eq_some_iff.1 hg2
      have y4 : (p2.length : Int) < (l.length : Int):=by omega
      have y5 : (p2.length : Int) < (cols.length : Int):=by omega
      have hw : IntKind.wrap .i64 ((p2.length : Int) + 1) = (p2.length : Int) + 1:=wrap_i64 (by omega) (by omega)
      unfold pl298_0
      by_cases o1 : valOkF d.Ty d.N d.S = true
      · by_cases o2 : d.Ty = b
        · rw [if_pos ⟨o1,o2⟩] at h4
          have o3 : valOkF b d.N d.S = true:=o2 ▸ o1
          refine Uw (J8 hg1 hg2 he1 he2 hlt hlt2 y4 (J6 y5 hw hd o1 o2 o3)) ?_
          repeat intro hc
          exact ⟨(p1 ++ [b],r1,p2 ++ [d],r2),by simp,⟨by rw [h1]; simp,by rw [h2]; simp,by simp [h3],h4⟩,by simp⟩
        · rw [if_neg (fun q => o2 q.2)] at h4
          have o4 : (d.Ty == b) = false:=by simpa using o2
          have o5 : (d.Ty != b) = true:=by simpa using o2
          refine Uw (J8 hg1 hg2 he1 he2 hlt hlt2 y4 (J6 y5 hw hd o1 o4 o5)) ?_
          repeat intro hc
          simp [pf298,fitsF,y0,← h4]
      · rw [if_neg (fun q => o1 q.1)] at h4
        have o3 : valOkF d.Ty d.N d.S = false:=by simpa using o1
        refine Uw (J8 hg1 hg2 he1 he2 hlt hlt2 y4 (J4 y5 hw hd o3)) ?_
        repeat intro hc
        simp [pf298,fitsF,y0,← h4]
  · have y1 : ¬ (l.length : Int) = (cols.length : Int):=by omega
    have y2 : ¬ (cols.length : Int) = (l.length : Int):=by omega
    repeat' (first
      | with_reducible (first | refine wp_seq ?_ | refine wp_blk ?_ | refine wp_skip ?_ | refine wp_exit ?_ | refine wp_ret ?_ | refine seqQ_norm ?_ | refine seqQ_ret ?_ | refine seqQ_exit ?_ | refine blkQ_norm ?_ | refine blkQ_ret ?_ | refine blkQ_exit ?_ | refine loopQ_norm ?_ | refine loopQ_exit ?_ | refine loopQ_ret ?_ | refine endQ_ret ?_ | refine endQ_norm ?_ | refine endE_ret ?_ | refine endE_norm ?_ | refine endI_ret ?_ | refine endI_norm ?_)
      | (with_reducible refine wp_loop (c:=pl298_0) ?_
         conv => arg 2; unfold pl298_0)
      | (with_reducible refine wp_regK fun K hK => ?_
         simp[y1,y2]
         repeat' (with_reducible first | refine hK _ ?_ | (refine psel ?_ ?_ <;> (intro hc; (try rw [Decidable.not_not] at hc); first | (exfalso; omega) | (try simp [hc,y1,y2]))))
         all_goals (clear hK; clear K))
      | (with_reducible refine wp_condE ?_
         refine ⟨_,rfl,?_,?_⟩ <;> (intro hc; (try simp at hc); (all_goals first | (exfalso; omega) | skip))))
    simp [pf298,fitsF,y0]

/-- By key,then by number. -/
def slt (ky : Int → Int) (x y : Int) : Prop:=ky x < ky y ∨ (ky x = ky y ∧ x < y)
def Srt (ky : Int → Int) (l : List Int) : Prop:=l.Pairwise (slt ky)

theorem slt.trans {ky : Int → Int} {x y z : Int} (h1 : slt ky x y) (h2 : slt ky y z) : slt ky x z:=by unfold slt at *; omega
theorem slt.irrefl {ky : Int → Int} {x : Int} : ¬ slt ky x x:=by unfold slt; omega
theorem slt.asymm {ky : Int → Int} {x y : Int} (h : slt ky x y) : ¬ slt ky y x:=by unfold slt at *; omega
theorem slt.le {ky : Int → Int} {x y : Int} (h : slt ky x y) : ky x ≤ ky y:=by unfold slt at h; omega
theorem slt_of_lt {ky : Int → Int} {x y : Int} (h : ky x < ky y) : slt ky x y:=.inl h
theorem slt_of_le {ky : Int → Int} {x y : Int} (h : ky x ≤ ky y) (h2 : x < y) : slt ky x y:=by unfold slt; omega

/-- Blocks of the list,each sorted for itself. -/
inductive Good (ky : Int → Int) (bs : Nat) : List Int → List Int → Prop
 | short (xs l : List Int) : xs.length ≤ bs → l.Perm xs → Srt ky l → Good ky bs xs l
 | app (w w' xs l : List Int) : w.length = bs → w'.Perm w → Srt ky w' → Good ky bs xs l → Good ky bs (w ++ xs) (w' ++ l)

theorem Good.perm {ky : Int → Int} {bs : Nat} {xs l : List Int} (h : Good ky bs xs l) : l.Perm xs:=by
 induction h with
 | short _ _ _ h => exact h
 | app _ _ _ _ _ h _ _ ih => exact h.append ih

theorem Good.le {ky : Int → Int} {bs : Nat} {xs l : List Int} (h : Good ky bs xs l) (hb : xs.length ≤ bs) (h0 : 0 < bs) : l.Perm xs ∧ Srt ky l:=by
 cases h with
 | short _ _ h1 h2 h3 => exact ⟨h2,h3⟩
 | app w w' xs l h1 h2 h3 h4 =>
  have h5 : xs = []:=List.eq_nil_of_length_eq_zero (by simp at hb; omega)
  subst h5
  have h6 : l = []:=List.perm_nil.1 h4.perm
  subst h6
  simpa using ⟨h2,h3⟩

/-- A number below 2^35 in bytes of seven bits,the lowest first. -/
def vbN (x : Nat) : List Int:=if h : x < 128 then [(x : Int)] else ((x % 128 + 128 : Nat) : Int) :: vbN (x / 128)
termination_by x
decreasing_by omega

/-- What is read: the number and how many bytes it took. -/
def rawN : Bool → Nat → List Int → Option (Nat × Nat)
 | _,0,_ => none
 | _,_ + 1,[] => none
 | fst,f + 1,c :: r =>
  if 128 ≤ c then match rawN false f r with
   | some (y,k) => some ((c % 128).toNat + 128 * y,k + 1)
   | none => none
  else if fst = false ∧ c = 0 then none else some (c.toNat,1)

def bytesOk (l : List Int) : Prop:=∀ c ∈ l,0 ≤ c ∧ c ≤ 255

theorem vbN_small {x : Nat} (h : x < 128) : vbN x = [(x : Int)]:=by rw [vbN]; simp [h]
theorem vbN_big {x : Nat} (h : ¬ x < 128) : vbN x = ((x % 128 + 128 : Nat) : Int) :: vbN (x / 128):=by rw [vbN]; simp [h]

theorem vbN_ok : ∀ x : Nat,bytesOk (vbN x):=by
 intro x
 induction x using Nat.strongRecOn with
 | _ x ih =>
  by_cases h : x < 128
  ·rw [vbN_small h]; intro c hc; simp at hc; omega
  ·rw [vbN_big h]
   intro c hc
   rcases List.mem_cons.1 hc with rfl | hc
   ·omega
   ·exact ih (x / 128) (by omega) c hc

theorem vbN_pos (x : Nat) : 1 ≤ (vbN x).length:=by
 by_cases h : x < 128
 ·rw [vbN_small h]; simp
 ·rw [vbN_big h]; simp

theorem vbN_len : ∀ (n x : Nat),x < 128 ^ n → 0 < n → (vbN x).length ≤ n:=by
 intro n
 induction n with
 | zero => intro x _ h; omega
 | succ n ih =>
  intro x h _
  by_cases hx : x < 128
  ·rw [vbN_small hx]; simp
  ·rw [vbN_big hx]
   have hn : 0 < n:=by
    rcases Nat.eq_zero_or_pos n with h0 | h0
    ·subst h0; simp at h; omega
    ·exact h0
   have:=ih (x / 128) (by rw [Nat.pow_succ] at h; omega) hn
   simp only [List.length_cons]; omega

theorem rawN_pos {f : Nat} : ∀ {l : List Int} {y k : Nat},bytesOk l → rawN false f l = some (y,k) → 0 < y:=by
 induction f with
 | zero => intro l y k _ h; simp [rawN] at h
 | succ f ih =>
  intro l y k hl h
  cases l with
  | nil => simp [rawN] at h
  | cons c r =>
   simp only [rawN] at h
   split at h
   ·split at h
    ·rename_i y' k' h1
     simp at h
     have:=ih (fun c hc => hl c (by simp [hc])) h1
     omega
    ·cases h
   ·rename_i hc
    have hc0:=hl c (by simp)
    split at h
    ·cases h
    ·rename_i h2
     simp at h
     simp at h2
     omega

/-- What is read is how the number is written. -/
theorem rawN_can : ∀ {f : Nat} {l : List Int} {fst : Bool} {y k : Nat},bytesOk l → rawN fst f l = some (y,k) → ∃ r,l = vbN y ++ r ∧ (vbN y).length = k:=by
 intro f
 induction f with
 | zero => intro l fst y k _ h; simp [rawN] at h
 | succ f ih =>
  intro l fst y k hl h
  cases l with
  | nil => simp [rawN] at h
  | cons c r =>
   have hc0:=hl c (by simp)
   simp only [rawN] at h
   split at h
   ·rename_i hc
    split at h
    ·rename_i y' k' h1
     simp at h
     obtain ⟨rfl,rfl⟩:=h
     have hr : bytesOk r:=fun c hc => hl c (by simp [hc])
     have hp:=rawN_pos hr h1
     obtain ⟨r',h2,h3⟩:=ih hr h1
     have hb : ¬ ((c % 128).toNat + 128 * y' < 128):=by omega
     rw [vbN_big hb,show ((c % 128).toNat + 128 * y') / 128 = y' by omega]
     refine ⟨r',?_,by simp [h3]⟩
     rw [h2,List.cons_append]
     congr 1
     omega
    ·cases h
   ·split at h
    ·cases h
    ·simp at h
     obtain ⟨rfl,rfl⟩:=h
     rw [vbN_small (by omega)]
     exact ⟨r,by simp; omega,rfl⟩

/-- What is written is read. -/
theorem rawN_vbN : ∀ (f y : Nat) (fst : Bool) (r : List Int),y < 128 ^ f → (fst = false → 0 < y) → rawN fst f (vbN y ++ r) = if f = 0 then none else some (y,(vbN y).length):=by
 intro f
 induction f with
 | zero => intro y fst r _ _; simp [rawN]
 | succ f ih =>
  intro y fst r h hf
  by_cases hy : y < 128
  ·rw [vbN_small hy]
   simp only [List.cons_append,List.nil_append,rawN]
   rw [if_neg (by omega),if_neg (fun e => by have:=hf e.1; omega)]
   simp
  ·rw [vbN_big hy]
   simp only [List.cons_append,rawN]
   rw [if_pos (by omega),ih (y / 128) false r (by rw [Nat.pow_succ] at h; omega) (fun _ => by omega)]
   have hf0 : f ≠ 0:=fun e => by subst e; simp at h; omega
   simp only [if_neg hf0,List.length_cons,Nat.add_eq_zero_iff,if_neg (show ¬ (f = 0 ∧ (1 : Nat) = 0) by omega)]
   simp only [Option.some.injEq,Prod.mk.injEq,and_true,reduceCtorEq]
   simp
   omega

def zigF (n : Int) : Int:=if -1000000000 ≤ n ∧ n ≤ 1000000000 then (if n < 0 then -2 * n - 1 else 2 * n) else 0
def zagF (n : Int) : Int:=if 0 ≤ n ∧ n ≤ 2000000000 then (if n.tmod 2 = 1 then (-(n + 1)).tdiv 2 else n.tdiv 2) else 0

theorem zagF_even {x : Int} (h : 0 ≤ x ∧ x ≤ 2000000000) (h2 : x % 2 = 0) : zagF x = x / 2:=by
 unfold zagF
 rw [if_pos h,Int.tmod_eq_emod_of_nonneg h.1,if_neg (by omega),Int.tdiv_eq_ediv_of_nonneg h.1]
theorem zagF_odd {x : Int} (h : 0 ≤ x ∧ x ≤ 2000000000) (h2 : x % 2 = 1) : zagF x = -((x + 1) / 2):=by
 unfold zagF
 rw [if_pos h,Int.tmod_eq_emod_of_nonneg h.1,if_pos h2,Int.neg_tdiv,Int.tdiv_eq_ediv_of_nonneg (by omega)]

theorem zag_zig {n : Int} (h : -1000000000 ≤ n ∧ n ≤ 1000000000) : zagF (zigF n) = n ∧ 0 ≤ zigF n ∧ zigF n ≤ 2000000000:=by
 unfold zigF
 rw [if_pos h]
 by_cases h0 : n < 0
 ·rw [if_pos h0,zagF_odd (by omega) (by omega)]; omega
 ·rw [if_neg h0,zagF_even (by omega) (by omega)]; omega

theorem zig_zag {x : Int} (h : 0 ≤ x ∧ x ≤ 2000000000) : zigF (zagF x) = x ∧ -1000000000 ≤ zagF x ∧ zagF x ≤ 1000000000:=by
 rcases (by omega : x % 2 = 0 ∨ x % 2 = 1) with h0 | h0
 ·rw [zagF_even h h0]
  unfold zigF
  rw [if_pos (by omega),if_neg (by omega)]; omega
 ·rw [zagF_odd h h0]
  unfold zigF
  rw [if_pos (by omega),if_pos (by omega)]; omega

/-- A number's bytes. -/
def encN (n : Int) : List Int:=if -1000000000 ≤ n ∧ n ≤ 1000000000 then vbN (zigF n).toNat else []
/-- A number read at the head. -/
def getN (l : List Int) : Option (Int × Nat):=match rawN true 5 l with
 | some (y,k) => if y ≤ 2000000000 then some (zagF y,k) else none
 | none => none

theorem encN_ok (n : Int) : bytesOk (encN n):=by
 unfold encN; split
 ·exact vbN_ok _
 ·intro c hc; simp at hc

theorem encN_len (n : Int) : (encN n).length ≤ 5:=by
 unfold encN; split
 ·rename_i h
  have:=zag_zig h
  exact vbN_len 5 _ (by omega) (by omega)
 ·simp

theorem getN_can {l : List Int} {n : Int} {k : Nat} (hl : bytesOk l) (h : getN l = some (n,k)) : (-1000000000 ≤ n ∧ n ≤ 1000000000) ∧ ∃ r,l = encN n ++ r ∧ (encN n).length = k:=by
 unfold getN at h
 split at h
 ·rename_i y k' h1
  split at h
  ·rename_i hy
   simp at h
   obtain ⟨rfl,rfl⟩:=h
   have hz:=zig_zag (x:=(y : Int)) (by omega)
   obtain ⟨r,h2,h3⟩:=rawN_can hl h1
   refine ⟨hz.2,r,?_⟩
   unfold encN
   rw [if_pos hz.2,hz.1]
   simpa using ⟨h2,h3⟩
  ·cases h
 ·cases h

theorem getN_enc {n : Int} (h : -1000000000 ≤ n ∧ n ≤ 1000000000) (r : List Int) : getN (encN n ++ r) = some (n,(encN n).length):=by
 have hz:=zag_zig h
 unfold getN encN
 rw [if_pos h,rawN_vbN 5 _ true r (by omega) (by simp)]
 simp only [if_neg (show ¬ (5 : Nat) = 0 by omega)]
 rw [if_pos (by omega)]
 simp only [Option.some.injEq,Prod.mk.injEq,and_true]
 rw [Int.toNat_of_nonneg hz.2.1]; exact hz.1

@[simp] theorem t562 (n : Int) : Gw TT 562 [vi n] = some (vi (zigF n),[]):=by
 refine Ga pf562 pb562 ?_
 unfold pb562
 by_cases q1 : numB n = true
 ·have q2:=q1
  simp only [numB,Bool.and_eq_true,decide_eq_true_eq] at q2
  have w1:=Wi (-2 * n)
  have w2:=Wi (-2 * n - 1)
  have w3:=Wi (2 * n)
  refine Uw (J4 q1 w1 w2 w3) ?_ ?_
  all_goals repeat intro hc
  all_goals first | (simp [pf562,zigF,q2, *]; done) | (simp [pf562,zigF]; omega)
 ·have q2:=q1
  simp only [numB,Bool.and_eq_true,decide_eq_true_eq] at q2
  simp only [Bool.not_eq_true] at q1
  refine Uw q1 ?_
  repeat intro hc
  simp [pf562,zigF,q2]

@[simp] theorem t590 (n : Int) : Gw TT 590 [vi n] = some (vi (zigF n),[]):=by
 refine Ga pf590 pb590 ?_
 unfold pb590
 by_cases q1 : numB n = true
 ·have q2:=q1
  simp only [numB,Bool.and_eq_true,decide_eq_true_eq] at q2
  have w1:=Wi (-2 * n)
  have w2:=Wi (-2 * n - 1)
  have w3:=Wi (2 * n)
  refine Uw (J4 q1 w1 w2 w3) ?_ ?_
  all_goals repeat intro hc
  all_goals first | (simp [pf590,zigF,q2, *]; done) | (simp [pf590,zigF]; omega)
 ·have q2:=q1
  simp only [numB,Bool.and_eq_true,decide_eq_true_eq] at q2
  simp only [Bool.not_eq_true] at q1
  refine Uw q1 ?_
  repeat intro hc
  simp [pf590,zigF,q2]

@[simp] theorem t521 (n : Int) : Gw TT 521 [vi n] = some (vi (zagF n),[]):=by
 refine Ga pf521 pb521 ?_
 unfold pb521
 by_cases q2 : 0 ≤ n ∧ n ≤ 2000000000
 ·have w1:=Wi (n + 1)
  have w2:=Wi (-(n + 1))
  have w4 : IntKind.wrap .i64 (0 - (n + 1)) = -(n + 1):=by rw [show (0 - (n + 1) : Int) = -(n + 1) by omega]; exact w2
  have w5 : IntKind.wrap .i64 (n.tdiv 2) = n.tdiv 2:=by rw [Int.tdiv_eq_ediv_of_nonneg q2.1]; exact wrap_i64 (by omega) (by omega)
  have w6 : IntKind.wrap .i64 ((-(n + 1)).tdiv 2) = (-(n + 1)).tdiv 2:=by rw [Int.neg_tdiv,Int.tdiv_eq_ediv_of_nonneg (by omega)]; exact wrap_i64 (by omega) (by omega)
  refine Uw (J7 q2.1 q2.2 w1 w2 w4 w5 w6) ?_ ?_
  all_goals repeat intro hc
  all_goals first | (simp [pf521,zagF,q2, *]; done) | (simp_all [pf521,zagF]; done)
 ·refine Uw Oo ?_
  repeat intro hc
  simp [pf521,zagF,q2]

@[simp] theorem t513 (n : Int) : Gw TT 513 [vi n] = some (vi (zagF n),[]):=by
 refine Ga pf513 pb513 ?_
 unfold pb513
 by_cases q2 : 0 ≤ n ∧ n ≤ 2000000000
 ·have w1:=Wi (n + 1)
  have w2:=Wi (-(n + 1))
  have w4 : IntKind.wrap .i64 (0 - (n + 1)) = -(n + 1):=by rw [show (0 - (n + 1) : Int) = -(n + 1) by omega]; exact w2
  have w5 : IntKind.wrap .i64 (n.tdiv 2) = n.tdiv 2:=by rw [Int.tdiv_eq_ediv_of_nonneg q2.1]; exact wrap_i64 (by omega) (by omega)
  have w6 : IntKind.wrap .i64 ((-(n + 1)).tdiv 2) = (-(n + 1)).tdiv 2:=by rw [Int.neg_tdiv,Int.tdiv_eq_ediv_of_nonneg (by omega)]; exact wrap_i64 (by omega) (by omega)
  refine Uw (J7 q2.1 q2.2 w1 w2 w4 w5 w6) ?_ ?_
  all_goals repeat intro hc
  all_goals first | (simp [pf513,zagF,q2, *]; done) | (simp_all [pf513,zagF]; done)
 ·refine Uw Oo ?_
  repeat intro hc
  simp [pf513,zagF,q2]

theorem byte_rem' (x : Nat) : IntKind.wrap .i64 (((x : Int).tmod 128) + 128) = ((x % 128 + 128 : Nat) : Int):=by
 rw [Int.tmod_eq_emod_of_nonneg (by omega),wrap_i64 (by omega) (by omega)]; omega

@[simp] theorem t531 (k0 : Bool) (b : List Int) (n : Int) (h : b.length ≤ 1048576) : Gw TT 531 [.one (.ro k0 (.sl 1 (b.map eb))),vi n] = some (.one (.own (.sl 1 ((b ++ encN n).map eb))),[]):=by
 refine Ga pf531 pb531 ?_
 unfold pb531
 have hq0 : (0 + b.length) * 1 ≤ 70368744177664:=by omega
 have hq1 : b.length ≤ 70368744177664:=by omega
 by_cases q1 : numB n = true
 ·have q2:=q1
  simp only [numB,Bool.and_eq_true,decide_eq_true_eq] at q2
  obtain ⟨z1,z2,z3⟩:=zag_zig q2
  obtain ⟨z,hz⟩:=Int.eq_ofNat_of_zero_le z2
  have hen : encN n = vbN z:=by simp [encN,q2,hz]
  have hlen:=encN_len n
  refine Ua (J5 q1 h hq0 hq1 hz) ?_
  refine wp_loopI (σ:=List Int × Nat) (fun s => [(5,AV.pl 5 0 [],some (Rt.vir [C.own (D.sl 1 ((s.1).map eb))])),(6,AV.v false (di (s.2 : Nat)),none)]) (fun s => s.1 ++ vbN s.2 = b ++ encN n ∧ s.2 ≤ z) (fun s => s.2) (b,z) (by simp) ⟨by rw [hen],Nat.le_refl _⟩ ?_
  rintro ⟨a,x⟩ ⟨y1,y2⟩
  simp only at y1 y2
  have hal:=congrArg List.length y1
  simp only [List.length_append] at hal
  have hp:=vbN_pos x
  have hr1 : (a.length + 1) * 1 ≤ 70368744177664:=by omega
  have hr2 : a.length + 1 ≤ 70368744177664:=by omega
  by_cases c1 : x < 128
  ·have c2 : ¬ (128 : Int) ≤ x:=by omega
   have c3 : ¬ (127 : Int) < x:=by omega
   have hu : IntKind.wrap .u8 (x : Int) = x:=wrap_u8 (by omega) (by omega)
   rw [vbN_small c1] at y1
   unfold pl531_0
   refine Ua (J5 c2 c3 hu hr1 hr2) ?_
   simp [pf531,← y1]
  ·have c2 : (128 : Int) ≤ x:=by omega
   have c3 : (127 : Int) < x:=by omega
   have hu : IntKind.wrap .u8 ((x % 128 + 128 : Nat) : Int) = ((x % 128 + 128 : Nat) : Int):=wrap_u8 (by omega) (by omega)
   have hv : IntKind.wrap .i64 ((x : Int).tdiv 128) = ((x / 128 : Nat) : Int):=by rw [Int.tdiv_eq_ediv_of_nonneg (by omega),wrap_i64 (by omega) (by omega)]; omega
   have hw : IntKind.wrap .i64 (128 + (x : Int).tmod 128) = ((x % 128 + 128 : Nat) : Int):=by rw [Int.add_comm]; exact byte_rem' x
   rw [vbN_big c1] at y1
   have hlt : x / 128 < x:=by omega
   have hu2 : IntKind.wrap .u8 ((x : Int) % 128 + 128) = (x : Int) % 128 + 128:=wrap_u8 (by omega) (by omega)
   have hv2:=Wi ((x : Int) / 128)
   unfold pl531_0
   refine Ua (J8 c2 c3 @byte_rem' hw hu hv hr1 hr2) ?_
   exact ⟨(a ++ [((x % 128 + 128 : Nat) : Int)],x / 128),by simp [hu2,hv2],⟨by rw [List.append_assoc]; exact y1,by omega⟩,hlt⟩
 ·have q2:=q1
  simp only [numB,Bool.and_eq_true,decide_eq_true_eq] at q2
  simp only [Bool.not_eq_true] at q1
  refine Ua (J4 q1 h hq0 hq1) ?_
  simp [pf531,encN,q2]

@[simp] theorem t566 (k0 : Bool) (b : List Int) (n : Int) (h : b.length ≤ 1048576) : Gw TT 566 [.one (.ro k0 (.sl 1 (b.map eb))),vi n] = some (.one (.own (.sl 1 ((b ++ encN n).map eb))),[]):=by
 refine Ga pf566 pb566 ?_
 unfold pb566
 have hq0 : (0 + b.length) * 1 ≤ 70368744177664:=by omega
 have hq1 : b.length ≤ 70368744177664:=by omega
 by_cases q1 : numB n = true
 ·have q2:=q1
  simp only [numB,Bool.and_eq_true,decide_eq_true_eq] at q2
  obtain ⟨z1,z2,z3⟩:=zag_zig q2
  obtain ⟨z,hz⟩:=Int.eq_ofNat_of_zero_le z2
  have hen : encN n = vbN z:=by simp [encN,q2,hz]
  have hlen:=encN_len n
  refine Ua (J5 q1 h hq0 hq1 hz) ?_
  refine wp_loopI (σ:=List Int × Nat) (fun s => [(5,AV.pl 5 0 [],some (Rt.vir [C.own (D.sl 1 ((s.1).map eb))])),(6,AV.v false (di (s.2 : Nat)),none)]) (fun s => s.1 ++ vbN s.2 = b ++ encN n ∧ s.2 ≤ z) (fun s => s.2) (b,z) (by simp) ⟨by rw [hen],Nat.le_refl _⟩ ?_
  rintro ⟨a,x⟩ ⟨y1,y2⟩
  simp only at y1 y2
  have hal:=congrArg List.length y1
  simp only [List.length_append] at hal
  have hp:=vbN_pos x
  have hr1 : (a.length + 1) * 1 ≤ 70368744177664:=by omega
  have hr2 : a.length + 1 ≤ 70368744177664:=by omega
  by_cases c1 : x < 128
  ·have c2 : ¬ (128 : Int) ≤ x:=by omega
   have c3 : ¬ (127 : Int) < x:=by omega
   have hu : IntKind.wrap .u8 (x : Int) = x:=wrap_u8 (by omega) (by omega)
   rw [vbN_small c1] at y1
   unfold pl566_0
   refine Ua (J5 c2 c3 hu hr1 hr2) ?_
   simp [pf566,← y1]
  ·have c2 : (128 : Int) ≤ x:=by omega
   have c3 : (127 : Int) < x:=by omega
   have hu : IntKind.wrap .u8 ((x % 128 + 128 : Nat) : Int) = ((x % 128 + 128 : Nat) : Int):=wrap_u8 (by omega) (by omega)
   have hv : IntKind.wrap .i64 ((x : Int).tdiv 128) = ((x / 128 : Nat) : Int):=by rw [Int.tdiv_eq_ediv_of_nonneg (by omega),wrap_i64 (by omega) (by omega)]; omega
   have hw : IntKind.wrap .i64 (128 + (x : Int).tmod 128) = ((x % 128 + 128 : Nat) : Int):=by rw [Int.add_comm]; exact byte_rem' x
   rw [vbN_big c1] at y1
   have hlt : x / 128 < x:=by omega
   have hu2 : IntKind.wrap .u8 ((x : Int) % 128 + 128) = (x : Int) % 128 + 128:=wrap_u8 (by omega) (by omega)
   have hv2:=Wi ((x : Int) / 128)
   unfold pl566_0
   refine Ua (J8 c2 c3 @byte_rem' hw hu hv hr1 hr2) ?_
   exact ⟨(a ++ [((x % 128 + 128 : Nat) : Int)],x / 128),by simp [hu2,hv2],⟨by rw [List.append_assoc]; exact y1,by omega⟩,hlt⟩
 ·have q2:=q1
  simp only [numB,Bool.and_eq_true,decide_eq_true_eq] at q2
  simp only [Bool.not_eq_true] at q1
  refine Ua (J4 q1 h hq0 hq1) ?_
  simp [pf566,encN,q2]

def gN (b : List Int) (u : Int) : Option (Int × Int):=if 0 ≤ u ∧ u < (b.length : Int) then (match getN (b.drop u.toNat) with
  | some (n,k) => some (n,u + (k : Int))
  | none => none) else none

def gV (r : Option (Int × Int)) : V:=match r with
  | some (n,t) => .tup [vi n,vi t,vb true]
  | none => .tup [vi 0,vi 0,vb false]
@[simp] theorem gV_some (n t : Int) : gV (some (n,t)) = .tup [vi n,vi t,vb true]:=rfl
@[simp] theorem gV_none : gV none = .tup [vi 0,vi 0,vb false]:=rfl

/-- How the sum goes on. -/
def rawR (i x : Nat) (r : Option (Nat × Nat)) : Option (Nat × Nat):=match r with
  | some (y,k) => some (x + 128 ^ i * y,i + k)
  | none => none

def fin5 (r : Option (Nat × Nat)) : Option (Int × Nat):=match r with
  | some (y,k) => if y ≤ 2000000000 then some (zagF y,k) else none
  | none => none
theorem getN_fin (l : List Int) : getN l = fin5 (rawN true 5 l):=by
  unfold getN fin5; rfl

@[simp] theorem t495 (k0 : Bool) (b : List Int) (u : Int) (h : b.length ≤ 1048576) (hb : bytesOk b) : Gw TT 495 [.one (.ro k0 (.sl 1 (b.map eb))),vi u] = some (gV (gN b u),[]):=by
  refine Ga pf495 pb495 ?_
  unfold pb495
  by_cases q1 : 0 ≤ u ∧ u < (b.length : Int)
  · obtain ⟨m,rfl⟩:=Int.eq_ofNat_of_zero_le q1.1
    have q3 : m < b.length:=by omega
    have q4 : (m : Int) ≤ (b.length : Int):=by omega
    have q5 : ¬ (b.length : Int) ≤ (m : Int):=by omega
    refine Ud (J3 q3 q4 q5) ?_
    repeat intro hc
    refine wp_loopI (σ:=Nat × Nat) (fun s => [(0,AV.v k0 (D.sl 1 (b.map eb)),none),(1,AV.v false (di (m : Nat)),none),(7,AV.v false (di (s.2 : Nat)),none),(8,AV.v false (di (s.1 : Nat)),none)]) (fun s => s.1 ≤ 5 ∧ s.2 < 128 ^ s.1 ∧ rawN true 5 (b.drop m) = rawR s.1 s.2 (rawN (s.1 == 0) (5 - s.1) (b.drop (m + s.1)))) (fun s => 5 - s.1) (0,0) (by simp) ⟨by omega,by simp,by simp [rawR]; cases rawN true 5 (b.drop m) <;> simp⟩ ?_
    rintro ⟨i,x⟩ ⟨y1,y2,y3⟩
    simp only at y1 y2 y3
    have hgn : gN b (m : Int) = (match fin5 (rawN true 5 (b.drop m)) with | some (n,k) => some (n,(m : Int) + (k : Int)) | none => none):=by
      simp [gN,q3,getN_fin]
    by_cases e5 : i = 5
    · subst e5
      have hnn : rawN true 5 (b.drop m) = none:=by rw [y3]; simp [rawN,rawR]
      have hgn2 : gN b (m : Int) = none:=by rw [hgn,hnn]; try rfl
      unfold pl495_0
      refine Ud hgn2 ?_
      simp [pf495,hgn2]
    · cases hr : b.drop (m + i) with
      | nil =>
        have hll:=congrArg List.length hr
        simp only [List.length_drop,List.length_nil] at hll
        have hnn : rawN true 5 (b.drop m) = none:=by
          rw [y3,hr]
          have : 5 - i = (4 - i) + 1:=by omega
          rw [this]; simp [rawN,rawR]
        have hgn2 : gN b (m : Int) = none:=by rw [hgn,hnn]; try rfl
        have w1 : IntKind.wrap .i64 ((m : Int) + (i : Int)) = (m : Int) + (i : Int):=wrap_i64 (by omega) (by omega)
        have w2 : IntKind.wrap .i64 ((b.length : Int) - (m : Int)) = (b.length : Int) - (m : Int):=wrap_i64 (by omega) (by omega)
        have c1 : ¬ (m : Int) + (i : Int) < (b.length : Int):=by omega
        have c2 : ¬ (i : Int) < (b.length : Int) - (m : Int):=by omega
        unfold pl495_0
        refine Ud (J5 hgn2 w1 w2 c1 c2) ?_
        repeat intro hc
        simp [pf495,hgn2]
      | cons c r =>
        have hll:=congrArg List.length hr
        simp only [List.length_drop,List.length_cons] at hll
        have hmi : m + i < b.length:=by omega
        have hgc : b[m + i]? = some c:=by
          have:=congrArg (fun l => l[0]?) hr
          simpa using this
        have hce : b[m + i] = c:=(List.getElem?_eq_some_iff.1 hgc).2
        have hc0:=hb c (List.mem_of_getElem? hgc)
        obtain ⟨cn,rfl⟩:=Int.eq_ofNat_of_zero_le hc0.1
        have hdr : b.drop (m + (i + 1)) = r:=by
          rw [← Nat.add_assoc,← List.drop_drop,hr]; simp
        have hnx : rawN (i == 0) (5 - i) (b.drop (m + i)) = rawN (i == 0) ((4 - i) + 1) ((cn : Int) :: r):=by rw [hr,show 5 - i = (4 - i) + 1 by omega]
        have w1 : IntKind.wrap .i64 ((m : Int) + (i : Int)) = (m : Int) + (i : Int):=wrap_i64 (by omega) (by omega)
        have w2 : IntKind.wrap .i64 ((b.length : Int) - (m : Int)) = (b.length : Int) - (m : Int):=wrap_i64 (by omega) (by omega)
        have w3 : IntKind.wrap .i64 ((m : Int) + (i : Int) + 1) = (m : Int) + (i : Int) + 1:=wrap_i64 (by omega) (by omega)
        have w4 : IntKind.wrap .i64 (cn : Int) = (cn : Int):=wrap_i64 (by omega) (by omega)
        have w5 : IntKind.wrap .i64 ((i : Int) + 1) = (i : Int) + 1:=wrap_i64 (by omega) (by omega)
        have c1 : (m : Int) + (i : Int) < (b.length : Int):=by omega
        have c2 : (i : Int) < (b.length : Int) - (m : Int):=by omega
        have c3 : (i : Int) < 5:=by omega
        have c4 : ((m : Int) + (i : Int)).toNat = m + i:=by omega
        have c5 : (0 : Int) ≤ (m : Int) + (i : Int):=by omega
        have hpw : (128 : Nat) ^ i = 2 ^ (7 * i):=by rw [Nat.pow_mul]
        have hpi : (2 : Nat) ^ (7 * i) ≤ 2 ^ 28:=Nat.pow_le_pow_right (by omega) (by omega)
        have hpi1 : 1 ≤ (2 : Nat) ^ (7 * i):=Nat.pos_of_ne_zero (by simp)
        obtain ⟨t,ht⟩ : ∃ t : Nat,t = cn % 128 * 2 ^ (7 * i):=⟨_,rfl⟩
        have htl : t ≤ 127 * 2 ^ 28:=by rw [ht]; exact Nat.mul_le_mul (by omega) hpi
        have x7 : IntKind.wrap .i64 (7 * (i : Int)) = 7 * (i : Int):=wrap_i64 (by omega) (by omega)
        have x0 : ¬ (7 * (i : Int) < 0):=by omega
        have x1 : (7 * (i : Int)).toNat = 7 * i:=by omega
        have x2 : min (7 * i) IntKind.i64.bits = 7 * i:=by simp [IntKind.bits]; omega
        have xt : (cn : Int).tmod 128 * 2 ^ (7 * i) = (t : Int):=by rw [Int.tmod_eq_emod_of_nonneg (by omega),ht]; simp
        have x3 : IntKind.wrap .i64 ((cn : Int).tmod 128 * 2 ^ (7 * i)) = (t : Int):=by rw [xt]; exact wrap_i64 (by omega) (by omega)
        have x4 : IntKind.wrap .i64 ((x : Int) + (t : Int)) = (x : Int) + (t : Int):=wrap_i64 (by omega) (by omega)
        have x6 : (2 : Nat) ^ (7 * (i + 1)) = 128 * 2 ^ (7 * i):=by rw [show 7 * (i + 1) = 7 * i + 7 by omega,Nat.pow_add]; omega
        have hst : x + t < 128 ^ (i + 1):=by
          have h1 : t ≤ 127 * 2 ^ (7 * i):=by rw [ht]; exact Nat.mul_le_mul (by omega) (Nat.le_refl _)
          rw [Nat.pow_succ,hpw]; rw [hpw] at y2; omega
        by_cases c6 : 128 ≤ cn
        · have c7 : (128 : Int) ≤ (cn : Int):=by omega
          have c8 : (127 : Int) < (cn : Int):=by omega
          have hnext : rawN true 5 (b.drop m) = rawR (i + 1) (x + t) (rawN (i + 1 == 0) (5 - (i + 1)) (b.drop (m + (i + 1)))):=by
            rw [y3,hnx,hdr,show 5 - (i + 1) = 4 - i by omega]
            simp only [rawN]
            rw [if_pos c7,show (i + 1 == 0) = false from by simp]
            cases rawN false (4 - i) r with
            | none => rfl
            | some yk =>
              obtain ⟨y,k⟩:=yk
              simp only [rawR,Option.some.injEq,Prod.mk.injEq]
              refine ⟨?_,by omega⟩
              rw [show ((cn : Int) % 128).toNat = cn % 128 by omega,ht,hpw,Nat.pow_succ,Nat.mul_add,hpw,Nat.mul_comm (2 ^ (7 * i)) (cn % 128),Nat.mul_assoc,Nat.add_assoc]
          unfold pl495_0
          refine Ud (J8 hgc hce hmi w1 w2 w3 w4 (J8 w5 c1 c2 c3 c4 c5 x7 (J7 x0 x1 x2 x3 x4 c7 c8))) ?_
          exact ⟨(i + 1,x + t),by simp,⟨by omega,hst,hnext⟩,by simp only; omega⟩
        · have c7 : ¬ (128 : Int) ≤ (cn : Int):=by omega
          have c8 : ¬ (127 : Int) < (cn : Int):=by omega
          have ht2 : t = 128 ^ i * cn:=by rw [ht,hpw,Nat.mod_eq_of_lt (by omega),Nat.mul_comm]
          have hraw : rawN true 5 (b.drop m) = if 0 < i ∧ cn = 0 then none else some (x + t,i + 1):=by
            rw [y3,hnx]
            simp only [rawN]
            rw [if_neg c7]
            by_cases z0 : 0 < i ∧ cn = 0
            · rw [if_pos z0,if_pos ⟨by simp; omega,by omega⟩]; try rfl
            · rw [if_neg z0,if_neg (fun e => z0 ⟨by have:=e.1; simp at this; omega,by have:=e.2; omega⟩)]
              simp [rawR,ht2]
          by_cases z0 : 0 < i ∧ cn = 0
          · have hgn2 : gN b (m : Int) = none:=by rw [hgn,hraw,if_pos z0]; try rfl
            obtain ⟨z1,z2⟩:=z0
            have z3 : (0 : Int) < (i : Int):=by omega
            unfold pl495_0
            refine Ud (J8 hgc hce hmi w1 w2 w3 w4 (J8 w5 c1 c2 c3 c4 c5 x7 (J8 x0 x1 x2 x3 x4 c7 c8 (J3 z1 z2 hgn2)))) ?_
            simp [pf495,hgn2]
          · by_cases z5 : x + t ≤ 2000000000
            · have hgn2 : gN b (m : Int) = some (zagF ((x : Int) + (t : Int)),(m : Int) + (i : Int) + 1):=by
                rw [hgn,hraw,if_neg z0]
                simp [fin5,z5]; omega
              have z6 : ¬ (2000000000 : Int) < (x : Int) + (t : Int):=by omega
              have z7 : 0 < i → cn ≠ 0:=fun e1 e2 => z0 ⟨e1,e2⟩
              by_cases z8 : 0 < i
              · have z9:=z7 z8
                unfold pl495_0
                refine Ud (J8 hgc hce hmi w1 w2 w3 w4 (J8 w5 c1 c2 c3 c4 c5 x7 (J8 x0 x1 x2 x3 x4 c7 c8 (J4 z6 z8 z9 hgn2)))) ?_
                simp [pf495,hgn2]
              · unfold pl495_0
                refine Ud (J8 hgc hce hmi w1 w2 w3 w4 (J8 w5 c1 c2 c3 c4 c5 x7 (J8 x0 x1 x2 x3 x4 c7 c8 (J3 z6 z8 hgn2)))) ?_
                simp [pf495,hgn2]
            · have hgn2 : gN b (m : Int) = none:=by
                rw [hgn,hraw,if_neg z0]
                simp [fin5,z5]
              have z6 : (2000000000 : Int) < (x : Int) + (t : Int):=by omega
              unfold pl495_0
              refine Ud (J8 hgc hce hmi w1 w2 w3 w4 (J8 w5 c1 c2 c3 c4 c5 x7 (J8 x0 x1 x2 x3 x4 c7 c8 (J2 z6 hgn2)))) ?_ ?_
              all_goals repeat intro hc
              all_goals simp [pf495,hgn2]
  · have hgn2 : gN b u = none:=by simp [gN]; omega
    by_cases ee : u = (b.length : Int)
    · subst ee
      repeat' (first
        | with_reducible (first | refine wp_seq ?_ | refine wp_blk ?_ | refine wp_skip ?_ | refine wp_exit ?_ | refine wp_ret ?_ | refine seqQ_norm ?_ | refine seqQ_ret ?_ | refine seqQ_exit ?_ | refine blkQ_norm ?_ | refine blkQ_ret ?_ | refine blkQ_exit ?_ | refine loopQ_norm ?_ | refine loopQ_exit ?_ | refine loopQ_ret ?_ | refine endQ_ret ?_ | refine endQ_norm ?_ | refine endE_ret ?_ | refine endE_norm ?_ | refine endI_ret ?_ | refine endI_norm ?_)
        | (with_reducible refine wp_loop (c:=pl495_0) ?_
           conv => arg 2; unfold pl495_0)
        | (with_reducible refine wp_regK fun K hK => ?_
           simp[hgn2]
           repeat' (with_reducible first | refine hK _ ?_ | (refine psel ?_ ?_ <;> (intro hc; (try rw [Decidable.not_not] at hc); first | (exfalso; omega) | (try simp [hc,hgn2]))))
           all_goals (clear hK; clear K))
        | (with_reducible refine wp_condE ?_
           refine ⟨_,rfl,?_,?_⟩ <;> (intro hc; (try simp at hc); (all_goals first | (exfalso; omega) | skip))))
      simp [pf495,hgn2]
    · refine Ud hgn2 ?_ ?_
      all_goals repeat intro hc
      all_goals simp [pf495,hgn2]

@[simp] theorem t491 (k0 : Bool) (b : List Int) (u : Int) (h : b.length ≤ 1048576) (hb : bytesOk b) : Gw TT 491 [.one (.ro k0 (.sl 1 (b.map eb))),vi u] = some (gV (gN b u),[]):=by
  refine Ga pf491 pb491 ?_
  unfold pb491
  by_cases q1 : 0 ≤ u ∧ u < (b.length : Int)
  · obtain ⟨m,rfl⟩:=Int.eq_ofNat_of_zero_le q1.1
    have q3 : m < b.length:=by omega
    have q4 : (m : Int) ≤ (b.length : Int):=by omega
    have q5 : ¬ (b.length : Int) ≤ (m : Int):=by omega
    refine Ud (J3 q3 q4 q5) ?_
    refine wp_loopI (σ:=Nat × Nat) (fun s => [(0,AV.v k0 (D.sl 1 (b.map eb)),none),(1,AV.v false (di (m : Nat)),none),(7,AV.v false (di (s.2 : Nat)),none),(8,AV.v false (di (s.1 : Nat)),none)]) (fun s => s.1 ≤ 5 ∧ s.2 < 128 ^ s.1 ∧ rawN true 5 (b.drop m) = rawR s.1 s.2 (rawN (s.1 == 0) (5 - s.1) (b.drop (m + s.1)))) (fun s => 5 - s.1) (0,0) (by simp) ⟨by omega,by simp,by simp [rawR]; cases rawN true 5 (b.drop m) <;> simp⟩ ?_
    rintro ⟨i,x⟩ ⟨y1,y2,y3⟩
    simp only at y1 y2 y3
    have hgn : gN b (m : Int) = (match fin5 (rawN true 5 (b.drop m)) with | some (n,k) => some (n,(m : Int) + (k : Int)) | none => none):=by
      simp [gN,q3,getN_fin]
    by_cases e5 : i = 5
    · subst e5
      have hnn : rawN true 5 (b.drop m) = none:=by rw [y3]; simp [rawN,rawR]
      have hgn2 : gN b (m : Int) = none:=by rw [hgn,hnn]; try rfl
      unfold pl491_0
      refine Ud hgn2 ?_
      simp [pf491,hgn2]
    · cases hr : b.drop (m + i) with
      | nil =>
        have hll:=congrArg List.length hr
        simp only [List.length_drop,List.length_nil] at hll
        have hnn : rawN true 5 (b.drop m) = none:=by
          rw [y3,hr]
          have : 5 - i = (4 - i) + 1:=by omega
          rw [this]; simp [rawN,rawR]
        have hgn2 : gN b (m : Int) = none:=by rw [hgn,hnn]; try rfl
        have w1 : IntKind.wrap .i64 ((m : Int) + (i : Int)) = (m : Int) + (i : Int):=wrap_i64 (by omega) (by omega)
        have w2 : IntKind.wrap .i64 ((b.length : Int) - (m : Int)) = (b.length : Int) - (m : Int):=wrap_i64 (by omega) (by omega)
        have c1 : ¬ (m : Int) + (i : Int) < (b.length : Int):=by omega
        have c2 : ¬ (i : Int) < (b.length : Int) - (m : Int):=by omega
        unfold pl491_0
        refine Ud (J5 hgn2 w1 w2 c1 c2) ?_
        repeat intro hc
        simp [pf491,hgn2]
      | cons c r =>
        have hll:=congrArg List.length hr
        simp only [List.length_drop,List.length_cons] at hll
        have hmi : m + i < b.length:=by omega
        have hgc : b[m + i]? = some c:=by
          have:=congrArg (fun l => l[0]?) hr
          simpa using this
        have hce : b[m + i] = c:=(List.getElem?_eq_some_iff.1 hgc).2
        have hc0:=hb c (List.mem_of_getElem? hgc)
        obtain ⟨cn,rfl⟩:=Int.eq_ofNat_of_zero_le hc0.1
        have hdr : b.drop (m + (i + 1)) = r:=by
          rw [← Nat.add_assoc,← List.drop_drop,hr]; simp
        have hnx : rawN (i == 0) (5 - i) (b.drop (m + i)) = rawN (i == 0) ((4 - i) + 1) ((cn : Int) :: r):=by rw [hr,show 5 - i = (4 - i) + 1 by omega]
        have w1 : IntKind.wrap .i64 ((m : Int) + (i : Int)) = (m : Int) + (i : Int):=wrap_i64 (by omega) (by omega)
        have w2 : IntKind.wrap .i64 ((b.length : Int) - (m : Int)) = (b.length : Int) - (m : Int):=wrap_i64 (by omega) (by omega)
        have w3 : IntKind.wrap .i64 ((m : Int) + (i : Int) + 1) = (m : Int) + (i : Int) + 1:=wrap_i64 (by omega) (by omega)
        have w4 : IntKind.wrap .i64 (cn : Int) = (cn : Int):=wrap_i64 (by omega) (by omega)
        have w5 : IntKind.wrap .i64 ((i : Int) + 1) = (i : Int) + 1:=wrap_i64 (by omega) (by omega)
        have c1 : (m : Int) + (i : Int) < (b.length : Int):=by omega
        have c2 : (i : Int) < (b.length : Int) - (m : Int):=by omega
        have c3 : (i : Int) < 5:=by omega
        have c4 : ((m : Int) + (i : Int)).toNat = m + i:=by omega
        have c5 : (0 : Int) ≤ (m : Int) + (i : Int):=by omega
        have hpw : (128 : Nat) ^ i = 2 ^ (7 * i):=by rw [Nat.pow_mul]
        have hpi : (2 : Nat) ^ (7 * i) ≤ 2 ^ 28:=Nat.pow_le_pow_right (by omega) (by omega)
        have hpi1 : 1 ≤ (2 : Nat) ^ (7 * i):=Nat.pos_of_ne_zero (by simp)
        obtain ⟨t,ht⟩ : ∃ t : Nat,t = cn % 128 * 2 ^ (7 * i):=⟨_,rfl⟩
        have htl : t ≤ 127 * 2 ^ 28:=by rw [ht]; exact Nat.mul_le_mul (by omega) hpi
        have x7 : IntKind.wrap .i64 (7 * (i : Int)) = 7 * (i : Int):=wrap_i64 (by omega) (by omega)
        have x0 : ¬ (7 * (i : Int) < 0):=by omega
        have x1 : (7 * (i : Int)).toNat = 7 * i:=by omega
        have x2 : min (7 * i) IntKind.i64.bits = 7 * i:=by simp [IntKind.bits]; omega
        have xt : (cn : Int).tmod 128 * 2 ^ (7 * i) = (t : Int):=by rw [Int.tmod_eq_emod_of_nonneg (by omega),ht]; simp
        have x3 : IntKind.wrap .i64 ((cn : Int).tmod 128 * 2 ^ (7 * i)) = (t : Int):=by rw [xt]; exact wrap_i64 (by omega) (by omega)
        have x4 : IntKind.wrap .i64 ((x : Int) + (t : Int)) = (x : Int) + (t : Int):=wrap_i64 (by omega) (by omega)
        have x6 : (2 : Nat) ^ (7 * (i + 1)) = 128 * 2 ^ (7 * i):=by rw [show 7 * (i + 1) = 7 * i + 7 by omega,Nat.pow_add]; omega
        have hst : x + t < 128 ^ (i + 1):=by
          have h1 : t ≤ 127 * 2 ^ (7 * i):=by rw [ht]; exact Nat.mul_le_mul (by omega) (Nat.le_refl _)
          rw [Nat.pow_succ,hpw]; rw [hpw] at y2; omega
        have a0 : (2 : Nat) ^ IntKind.i64.bits = 18446744073709551616:=by simp [IntKind.bits]
        have a1 : x % 2 ^ IntKind.i64.bits = x:=by rw [a0]; exact Nat.mod_eq_of_lt (by rw [hpw] at y2; omega)
        have a2 : cn % 2 ^ IntKind.i64.bits = cn:=by rw [a0]; exact Nat.mod_eq_of_lt (by omega)
        have a3 : 127 % 2 ^ IntKind.i64.bits = 127:=by rw [a0]
        have a4 : cn &&& 127 = cn % 128:=by rw [show (127 : Nat) = 2 ^ 7 - 1 by rfl,Nat.and_two_pow_sub_one_eq_mod]
        have a5 : IntKind.wrap .i64 ((cn : Int) % 128) = (cn : Int) % 128:=wrap_i64 (by omega) (by omega)
        have a6 : IntKind.wrap .i64 ((cn : Int) % 128 * 2 ^ (7 * i)) = (t : Int):=by rw [← Int.tmod_eq_emod_of_nonneg (by omega)]; exact x3
        have a7 : (t : Int) % 2 ^ IntKind.i64.bits = (t : Int):=by rw [show (2 : Int) ^ IntKind.i64.bits = 18446744073709551616 by simp [IntKind.bits]]; omega
        have a9 : t % 2 ^ IntKind.i64.bits = t:=by rw [a0]; omega
        have a8 : x ||| t = x + t:=by
          rw [hpw] at y2
          rw [ht,Nat.mul_comm,Nat.or_comm,← Nat.two_pow_add_eq_or_of_lt y2,Nat.add_comm]
        by_cases c6 : 128 ≤ cn
        · have c7 : (128 : Int) ≤ (cn : Int):=by omega
          have c8 : (127 : Int) < (cn : Int):=by omega
          have hnext : rawN true 5 (b.drop m) = rawR (i + 1) (x + t) (rawN (i + 1 == 0) (5 - (i + 1)) (b.drop (m + (i + 1)))):=by
            rw [y3,hnx,hdr,show 5 - (i + 1) = 4 - i by omega]
            simp only [rawN]
            rw [if_pos c7,show (i + 1 == 0) = false from by simp]
            cases rawN false (4 - i) r with
            | none => rfl
            | some yk =>
              obtain ⟨y,k⟩:=yk
              simp only [rawR,Option.some.injEq,Prod.mk.injEq]
              refine ⟨?_,by omega⟩
              rw [show ((cn : Int) % 128).toNat = cn % 128 by omega,ht,hpw,Nat.pow_succ,Nat.mul_add,hpw,Nat.mul_comm (2 ^ (7 * i)) (cn % 128),Nat.mul_assoc,Nat.add_assoc]
          unfold pl491_0
          refine Ud (J8 hgc hce hmi w1 w2 w3 w4 (J8 w5 c1 c2 c3 c4 c5 x7 (J8 x0 x1 x2 x3 x4 c7 c8 (J8 a1 a2 a3 a4 a5 a6 a7 (J2 a8 a9))))) ?_
          exact ⟨(i + 1,x + t),by simp,⟨by omega,hst,hnext⟩,by simp only; omega⟩
        · have c7 : ¬ (128 : Int) ≤ (cn : Int):=by omega
          have c8 : ¬ (127 : Int) < (cn : Int):=by omega
          have ht2 : t = 128 ^ i * cn:=by rw [ht,hpw,Nat.mod_eq_of_lt (by omega),Nat.mul_comm]
          have hraw : rawN true 5 (b.drop m) = if 0 < i ∧ cn = 0 then none else some (x + t,i + 1):=by
            rw [y3,hnx]
            simp only [rawN]
            rw [if_neg c7]
            by_cases z0 : 0 < i ∧ cn = 0
            · rw [if_pos z0,if_pos ⟨by simp; omega,by omega⟩]; try rfl
            · rw [if_neg z0,if_neg (fun e => z0 ⟨by have:=e.1; simp at this; omega,by have:=e.2; omega⟩)]
              simp [rawR,ht2]
          by_cases z0 : 0 < i ∧ cn = 0
          · have hgn2 : gN b (m : Int) = none:=by rw [hgn,hraw,if_pos z0]; try rfl
            obtain ⟨z1,z2⟩:=z0
            have z3 : (0 : Int) < (i : Int):=by omega
            unfold pl491_0
            refine Ud (J8 hgc hce hmi w1 w2 w3 w4 (J8 w5 c1 c2 c3 c4 c5 x7 (J8 x0 x1 x2 x3 x4 c7 c8 (J8 z1 z2 hgn2 a1 a2 a3 a4 (J5 a5 a6 a7 a8 a9))))) ?_ ?_
            all_goals repeat intro hc
            all_goals simp [pf491,hgn2]
          · by_cases z5 : x + t ≤ 2000000000
            · have hgn2 : gN b (m : Int) = some (zagF ((x : Int) + (t : Int)),(m : Int) + (i : Int) + 1):=by
                rw [hgn,hraw,if_neg z0]
                simp [fin5,z5]; omega
              have z6 : ¬ (2000000000 : Int) < (x : Int) + (t : Int):=by omega
              have z7 : 0 < i → cn ≠ 0:=fun e1 e2 => z0 ⟨e1,e2⟩
              by_cases z8 : 0 < i
              · have z9:=z7 z8
                unfold pl491_0
                refine Ud (J8 hgc hce hmi w1 w2 w3 w4 (J8 w5 c1 c2 c3 c4 c5 x7 (J8 x0 x1 x2 x3 x4 c7 c8 (J8 z6 z8 z9 hgn2 a1 a2 a3 (J6 a4 a5 a6 a7 a8 a9))))) ?_
                simp [pf491,hgn2]
              · unfold pl491_0
                refine Ud (J8 hgc hce hmi w1 w2 w3 w4 (J8 w5 c1 c2 c3 c4 c5 x7 (J8 x0 x1 x2 x3 x4 c7 c8 (J8 z6 z8 hgn2 a1 a2 a3 a4 (J5 a5 a6 a7 a8 a9))))) ?_ ?_
                all_goals repeat intro hc
                all_goals simp [pf491,hgn2]
            · have hgn2 : gN b (m : Int) = none:=by
                rw [hgn,hraw,if_neg z0]
                simp [fin5,z5]
              have z6 : (2000000000 : Int) < (x : Int) + (t : Int):=by omega
              unfold pl491_0
              refine Ud (J8 hgc hce hmi w1 w2 w3 w4 (J8 w5 c1 c2 c3 c4 c5 x7 (J8 x0 x1 x2 x3 x4 c7 c8 (J8 z6 hgn2 a1 a2 a3 a4 a5 (J4 a6 a7 a8 a9))))) ?_
              simp [pf491,hgn2]
  · have hgn2 : gN b u = none:=by simp [gN]; omega
    by_cases ee : u = (b.length : Int)
    · subst ee
      repeat' (first
        | with_reducible (first | refine wp_seq ?_ | refine wp_blk ?_ | refine wp_skip ?_ | refine wp_exit ?_ | refine wp_ret ?_ | refine seqQ_norm ?_ | refine seqQ_ret ?_ | refine seqQ_exit ?_ | refine blkQ_norm ?_ | refine blkQ_ret ?_ | refine blkQ_exit ?_ | refine loopQ_norm ?_ | refine loopQ_exit ?_ | refine loopQ_ret ?_ | refine endQ_ret ?_ | refine endQ_norm ?_ | refine endE_ret ?_ | refine endE_norm ?_ | refine endI_ret ?_ | refine endI_norm ?_)
        | (with_reducible refine wp_loop (c:=pl491_0) ?_
           conv => arg 2; unfold pl491_0)
        | (with_reducible refine wp_regK fun K hK => ?_
           simp[hgn2]
           repeat' (with_reducible first | refine hK _ ?_ | (refine psel ?_ ?_ <;> (intro hc; (try rw [Decidable.not_not] at hc); first | (exfalso; omega) | (try simp [hc,hgn2]))))
           all_goals (clear hK; clear K))
        | (with_reducible refine wp_condE ?_
           refine ⟨_,rfl,?_,?_⟩ <;> (intro hc; (try simp at hc); (all_goals first | (exfalso; omega) | skip))))
      simp [pf491,hgn2]
    · refine Ud hgn2 ?_
      repeat intro hc
      simp [pf491,hgn2]

def numsF (b : List Int) : Nat → Int → Option (List Int × Int)
 | 0,u => some ([],u)
 | k + 1,u => match gN b u with
  | some (n,t) => match numsF b k t with
   | some (l,v) => some (n :: l,v)
   | none => none
  | none => none

def gNs (b : List Int) (u : Int) : Option (List Int × Int):=match gN b u with
 | some (k,t) => if 0 ≤ k ∧ k ≤ 64 then numsF b k.toNat t else none
 | none => none

def gsV (r : Option (List Int × Int)) : V:=match r with
 | some (l,t) => .tup [.one (.own (.sl 1 (l.map ei))),vi t,vb true]
 | none => .tup [.one (.own (.sl 1 [])),vi 0,vb false]
@[simp] theorem gsV_some (l : List Int) (t : Int) : gsV (some (l,t)) = .tup [.one (.own (.sl 1 (l.map ei))),vi t,vb true]:=rfl
@[simp] theorem gsV_none : gsV none = .tup [.one (.own (.sl 1 [])),vi 0,vb false]:=rfl

def preL {α : Type} (a : List α) (r : Option (List α × Int)) : Option (List α × Int):=match r with
 | some (l,v) => some (a ++ l,v)
 | none => none
@[simp] theorem preL_none {α : Type} (a : List α) : preL a none = none:=rfl
@[simp] theorem preL_some {α : Type} (a l : List α) (v : Int) : preL a (some (l,v)) = some (a ++ l,v):=rfl
theorem preL_nil {α : Type} (r : Option (List α × Int)) : preL [] r = r:=by cases r <;> rfl

theorem numsF_some {b : List Int} {a : List Int} {k : Nat} {u n t : Int} (h : gN b u = some (n,t)) : preL a (numsF b (k + 1) u) = preL (a ++ [n]) (numsF b k t):=by
 simp only [numsF,h]
 cases numsF b k t with
 | none => rfl
 | some x => simp [preL]

theorem numsF_none {b : List Int} {a : List Int} {k : Nat} {u : Int} (h : gN b u = none) : preL a (numsF b (k + 1) u) = none:=by
 simp only [numsF,h]; rfl

@[simp] theorem t494 (k0 : Bool) (b : List Int) (u : Int) (h : b.length ≤ 1048576) (hb : bytesOk b) : Gw TT 494 [.one (.ro k0 (.sl 1 (b.map eb))),vi u] = some (gsV (gNs b u),[]):=by
 refine Ga pf494 pb494 ?_
 unfold pb494
 cases hg : gN b u with
 | none =>
  have hgn : gNs b u = none:=by simp [gNs,hg]
  refine Uw (J4 h hb hg hgn) ?_
  simp [pf494,hgn]
 | some q =>
  obtain ⟨K,t⟩:=q
  by_cases q1 : 0 ≤ K ∧ K ≤ 64
  ·obtain ⟨m,rfl⟩:=Int.eq_ofNat_of_zero_le q1.1
   have q2 : (m : Int) ≤ 64:=q1.2
   have hgs : gNs b u = numsF b m t:=by simp [gNs,hg]; intro e; omega
   refine Uw (J4 h hb hg q2) ?_
   refine wp_loopI (σ:=List Int × (Nat × Int)) (fun s => [(0,AV.v k0 (D.sl 1 (b.map eb)),none),(1,AV.v false (di s.2.2),none),(7,AV.v false (di (m : Nat)),none),(9,AV.pl 9 0 [],some (Rt.vir [C.own (D.sl 1 ((s.1).map ei))])),(10,AV.v false (di (s.1.length : Nat)),none)]) (fun s => s.1.length + s.2.1 = m ∧ gNs b u = preL s.1 (numsF b s.2.1 s.2.2)) (fun s => s.2.1) ([],(m,t)) (by simp) ⟨by simp,by rw [preL_nil]; exact hgs⟩ ?_
   rintro ⟨a,⟨i,v⟩⟩ ⟨y1,y2⟩
   simp only at y1 y2
   have hq : (a.length + 1) * 8 ≤ 70368744177664:=by omega
   cases i with
   | zero =>
    have c1 : ¬ (a.length : Int) < (m : Int):=by omega
    simp only [numsF,preL_some,List.append_nil] at y2
    unfold pl494_0
    refine Uw (J2 c1 y2) ?_
    simp [pf494,y2]
   | succ i =>
    have c1 : (a.length : Int) < (m : Int):=by omega
    have hw:=Wi ((a.length : Int) + 1)
    cases hv : gN b v with
    | none =>
     rw [numsF_none hv] at y2
     unfold pl494_0
     refine Uw (J7 h hb c1 hv hw hq y2) ?_
     simp [pf494,y2]
    | some q =>
     obtain ⟨n,t2⟩:=q
     rw [numsF_some hv] at y2
     unfold pl494_0
     refine Uw (J6 h hb c1 hv hw hq) ?_
     exact ⟨(a ++ [n],(i,t2)),by simp,⟨by simp; omega,y2⟩,by simp⟩
  ·have hgn : gNs b u = none:=by simp [gNs,hg,q1]
   refine Uw (J4 h hb hg hgn) ?_
   repeat intro hc
   simp [pf494,hgn]

@[simp] theorem t490 (k0 : Bool) (b : List Int) (u : Int) (h : b.length ≤ 1048576) (hb : bytesOk b) : Gw TT 490 [.one (.ro k0 (.sl 1 (b.map eb))),vi u] = some (gsV (gNs b u),[]):=by
 refine Ga pf490 pb490 ?_
 unfold pb490
 cases hg : gN b u with
 | none =>
  have hgn : gNs b u = none:=by simp [gNs,hg]
  refine Uw (J4 h hb hg hgn) ?_
  simp [pf490,hgn]
 | some q =>
  obtain ⟨K,t⟩:=q
  by_cases q1 : 0 ≤ K ∧ K ≤ 64
  ·obtain ⟨m,rfl⟩:=Int.eq_ofNat_of_zero_le q1.1
   have q2 : (m : Int) ≤ 64:=q1.2
   have hgs : gNs b u = numsF b m t:=by simp [gNs,hg]; intro e; omega
   refine Uw (J4 h hb hg q2) ?_
   refine wp_loopI (σ:=List Int × (Nat × Int)) (fun s => [(0,AV.v k0 (D.sl 1 (b.map eb)),none),(7,AV.v false (di (m : Nat)),none),(8,AV.v false (di s.2.2),none),(10,AV.pl 10 0 [],some (Rt.vir [C.own (D.sl 1 ((s.1).map ei))])),(11,AV.v false (di (s.1.length : Nat)),none)]) (fun s => s.1.length + s.2.1 = m ∧ gNs b u = preL s.1 (numsF b s.2.1 s.2.2)) (fun s => s.2.1) ([],(m,t)) (by simp) ⟨by simp,by rw [preL_nil]; exact hgs⟩ ?_
   rintro ⟨a,⟨i,v⟩⟩ ⟨y1,y2⟩
   simp only at y1 y2
   have hq : (a.length + 1) * 8 ≤ 70368744177664:=by omega
   cases i with
   | zero =>
    have c1 : ¬ (a.length : Int) < (m : Int):=by omega
    simp only [numsF,preL_some,List.append_nil] at y2
    unfold pl490_0
    refine Uw (J2 c1 y2) ?_
    simp [pf490,y2]
   | succ i =>
    have c1 : (a.length : Int) < (m : Int):=by omega
    have hw:=Wi ((a.length : Int) + 1)
    cases hv : gN b v with
    | none =>
     rw [numsF_none hv] at y2
     unfold pl490_0
     refine Uw (J7 h hb c1 hv hw hq y2) ?_
     simp [pf490,y2]
    | some q =>
     obtain ⟨n,t2⟩:=q
     rw [numsF_some hv] at y2
     unfold pl490_0
     refine Uw (J6 h hb c1 hv hw hq) ?_
     exact ⟨(a ++ [n],(i,t2)),by simp,⟨by simp; omega,y2⟩,by simp⟩
  ·have hgn : gNs b u = none:=by simp [gNs,hg,q1]
   refine Uw (J4 h hb hg hgn) ?_
   repeat intro hc
   simp [pf490,hgn]

def lenTab : ByteArray:=⟨#[0,1,2,2,3,3,3,3,4,4,4,4,4,4,4,4,5,5,5,5,5,5,5,5,5,5,5,5,5,5,5,5,6,6,6,6,6,6,6,6,6,6,6,6,6,6,6,6,6,6,6,6,6,6,6,6,6,6,6,6,6,6,6,6,7,7,7,7,7,7,7,7,7,7,7,7,7,7,7,7,7,7,7,7,7,7,7,7,7,7,7,7,7,7,7,7,7,7,7,7,7,7,7,7,7,7,7,7,7,7,7,7,7,7,7,7,7,7,7,7,7,7,7,7,7,7,7,7,8,8,8,8,8,8,8,8,8,8,8,8,8,8,8,8,8,8,8,8,8,8,8,8,8,8,8,8,8,8,8,8,8,8,8,8,8,8,8,8,8,8,8,8,8,8,8,8,8,8,8,8,8,8,8,8,8,8,8,8,8,8,8,8,8,8,8,8,8,8,8,8,8,8,8,8,8,8,8,8,8,8,8,8,8,8,8,8,8,8,8,8,8,8,8,8,8,8,8,8,8,8,8,8,8,8,8,8,8,8,8,8,8,8,8,8,8,8,8,8,8,8,8,8,8,8,8,8]⟩

def widN (x : Nat) : Nat:=if h : x = 0 then 0 else widN (x / 2) + 1
termination_by x
decreasing_by omega

theorem widN_zero : widN 0 = 0:=by rw [widN]; simp
theorem widN_pos {x : Nat} (h : x ≠ 0) : widN x = widN (x / 2) + 1:=by rw [widN]; simp [h]

theorem widN_div : ∀ (k x : Nat),2 ^ k ≤ x → widN x = k + widN (x / 2 ^ k)
 | 0,x,_ => by simp
 | k + 1,x,h => by
  have h1 : 2 ^ k ≤ x / 2:=by rw [Nat.pow_succ] at h; omega
  have h2:=Nat.two_pow_pos k
  rw [widN_pos (by omega),widN_div k (x / 2) h1,Nat.div_div_eq_div_mul,Nat.pow_succ,Nat.mul_comm 2]; omega

def bitsF : Nat → Nat → Nat
 | 0,_ => 0
 | f + 1,x => if x = 0 then 0 else bitsF f (x / 2) + 1
theorem bitsF_wid : ∀ (f x : Nat),x < 2 ^ f → bitsF f x = widN x
 | 0,x,h => by simp at h; subst h; simp [bitsF,widN_zero]
 | f + 1,x,h => by
  simp only [bitsF]
  by_cases h0 : x = 0
  ·subst h0; simp [widN_zero]
  ·rw [if_neg h0,widN_pos h0,bitsF_wid f (x / 2) (by rw [Nat.pow_succ] at h; omega)]

theorem lenTab_all : ∀ i : Fin 256,lenTab.data.toList[i.val]? = some (UInt8.ofNat (bitsF 8 i.val)):=by decide +kernel
theorem widN_le : ∀ (f x : Nat),x < 2 ^ f → widN x ≤ f
 | 0,x,h => by simp at h; subst h; simp [widN_zero]
 | f + 1,x,h => by
  by_cases h0 : x = 0
  ·subst h0; simp [widN_zero]
  ·rw [widN_pos h0]
   have:=widN_le f (x / 2) (by rw [Nat.pow_succ] at h; omega)
   omega
theorem lenTab_at {i : Nat} (h : i < 256) : lenTab.toList[i]? = some (UInt8.ofNat (widN i)):=by
 rw [ByteArray.toList_eq]
 have:=lenTab_all ⟨i,h⟩
 simp only at this
 rw [this,bitsF_wid 8 i (by omega)]
theorem lenTab_val {i : Nat} (h : i < 256) : (UInt8.ofNat (widN i)).toNat = widN i:=by
 have:=widN_le 8 i (by omega)
 simp; omega

theorem t594 (x : Nat) (h : x < 2147483648) : Gw TT 594 [.one (.ro false (.int .u64 (x : Int)))] = some (vi ((widN x : Nat) : Int),[]):=by
 refine Ga pf594 pb594 ?_
 unfold pb594
 rw [show (⟨#[0,1,2,2,3,3,3,3,4,4,4,4,4,4,4,4,5,5,5,5,5,5,5,5,5,5,5,5,5,5,5,5,6,6,6,6,6,6,6,6,6,6,6,6,6,6,6,6,6,6,6,6,6,6,6,6,6,6,6,6,6,6,6,6,7,7,7,7,7,7,7,7,7,7,7,7,7,7,7,7,7,7,7,7,7,7,7,7,7,7,7,7,7,7,7,7,7,7,7,7,7,7,7,7,7,7,7,7,7,7,7,7,7,7,7,7,7,7,7,7,7,7,7,7,7,7,7,7,8,8,8,8,8,8,8,8,8,8,8,8,8,8,8,8,8,8,8,8,8,8,8,8,8,8,8,8,8,8,8,8,8,8,8,8,8,8,8,8,8,8,8,8,8,8,8,8,8,8,8,8,8,8,8,8,8,8,8,8,8,8,8,8,8,8,8,8,8,8,8,8,8,8,8,8,8,8,8,8,8,8,8,8,8,8,8,8,8,8,8,8,8,8,8,8,8,8,8,8,8,8,8,8,8,8,8,8,8,8,8,8,8,8,8,8,8,8,8,8,8,8,8,8,8,8,8,8]⟩ : ByteArray) = lenTab from rfl]
 have e1 : ¬ (4294967296 : Int) ≤ (x : Int):=by omega
 have m1 : min 16 IntKind.u64.bits = 16:=by simp [IntKind.bits]
 have m2 : min 8 IntKind.u64.bits = 8:=by simp [IntKind.bits]
 by_cases c1 : 65536 ≤ x
 ·have c2 : (65536 : Int) ≤ (x : Int):=by omega
  obtain ⟨y,hy⟩ : ∃ y,y = x / 65536:=⟨_,rfl⟩
  have f1 : (x : Int).fdiv 65536 = (y : Int):=by rw [Int.fdiv_eq_ediv_of_nonneg _ (by omega)]; omega
  have w1 : widN x = 16 + widN y:=by rw [hy]; exact widN_div 16 x (by omega)
  by_cases d1 : 256 ≤ y
  ·have d2 : (256 : Int) ≤ (y : Int):=by omega
   obtain ⟨z,hz⟩ : ∃ z,z = y / 256:=⟨_,rfl⟩
   have f2 : (y : Int).fdiv 256 = (z : Int):=by rw [Int.fdiv_eq_ediv_of_nonneg _ (by omega)]; omega
   have w2 : widN y = 8 + widN z:=by rw [hz]; exact widN_div 8 y (by omega)
   have z1 : IntKind.wrap .u8 ((z : Nat) : Int) = ((z : Nat) : Int):=wrap_u8 (by omega) (by omega)
   have z2:=lenTab_at (i:=z) (by omega)
   have z3:=lenTab_val (i:=z) (by omega)
   have z4:=widN_le 8 (z) (by omega)
   have z5 : IntKind.wrap .i64 ((widN (z) : Nat) : Int) = ((widN (z) : Nat) : Int):=wrap_i64 (by omega) (by omega)
   have z6 : IntKind.wrap .i64 ((24 : Int) + ((widN (z) : Nat) : Int)) = ((widN x : Nat) : Int):=by rw [wrap_i64 (by omega) (by omega)]; omega
   generalize hwx : widN x = wx at *
   generalize hws : widN (z) = ws at *
   refine Ua (J8 c2 d2 f1 f2 m1 m2 z1 (J5 z2 z3 z5 z6 e1)) ?_
   simp [pf594, *]
  ·have d2 : ¬ (256 : Int) ≤ (y : Int):=by omega
   have z1 : IntKind.wrap .u8 ((y : Nat) : Int) = ((y : Nat) : Int):=wrap_u8 (by omega) (by omega)
   have z2:=lenTab_at (i:=y) (by omega)
   have z3:=lenTab_val (i:=y) (by omega)
   have z4:=widN_le 8 (y) (by omega)
   have z5 : IntKind.wrap .i64 ((widN (y) : Nat) : Int) = ((widN (y) : Nat) : Int):=wrap_i64 (by omega) (by omega)
   have z6 : IntKind.wrap .i64 ((16 : Int) + ((widN (y) : Nat) : Int)) = ((widN x : Nat) : Int):=by rw [wrap_i64 (by omega) (by omega)]; omega
   generalize hwx : widN x = wx at *
   generalize hws : widN (y) = ws at *
   refine Ua (J8 c2 d2 f1 m1 m2 z1 z2 (J4 z3 z5 z6 e1)) ?_
   simp [pf594, *]
 ·have c2 : ¬ (65536 : Int) ≤ (x : Int):=by omega
  by_cases d1 : 256 ≤ x
  ·have d2 : (256 : Int) ≤ (x : Int):=by omega
   obtain ⟨z,hz⟩ : ∃ z,z = x / 256:=⟨_,rfl⟩
   have f2 : (x : Int).fdiv 256 = (z : Int):=by rw [Int.fdiv_eq_ediv_of_nonneg _ (by omega)]; omega
   have w2 : widN x = 8 + widN z:=by rw [hz]; exact widN_div 8 x (by omega)
   have z1 : IntKind.wrap .u8 ((z : Nat) : Int) = ((z : Nat) : Int):=wrap_u8 (by omega) (by omega)
   have z2:=lenTab_at (i:=z) (by omega)
   have z3:=lenTab_val (i:=z) (by omega)
   have z4:=widN_le 8 (z) (by omega)
   have z5 : IntKind.wrap .i64 ((widN (z) : Nat) : Int) = ((widN (z) : Nat) : Int):=wrap_i64 (by omega) (by omega)
   have z6 : IntKind.wrap .i64 ((8 : Int) + ((widN (z) : Nat) : Int)) = ((widN x : Nat) : Int):=by rw [wrap_i64 (by omega) (by omega)]; omega
   generalize hwx : widN x = wx at *
   generalize hws : widN (z) = ws at *
   refine Ua (J8 c2 d2 f2 m1 m2 z1 z2 (J4 z3 z5 z6 e1)) ?_
   simp [pf594, *]
  ·have d2 : ¬ (256 : Int) ≤ (x : Int):=by omega
   have z1 : IntKind.wrap .u8 ((x : Nat) : Int) = ((x : Nat) : Int):=wrap_u8 (by omega) (by omega)
   have z2:=lenTab_at (i:=x) (by omega)
   have z3:=lenTab_val (i:=x) (by omega)
   have z4:=widN_le 8 (x) (by omega)
   have z5 : IntKind.wrap .i64 ((widN (x) : Nat) : Int) = ((widN (x) : Nat) : Int):=wrap_i64 (by omega) (by omega)
   have z6 : IntKind.wrap .i64 ((0 : Int) + ((widN (x) : Nat) : Int)) = ((widN x : Nat) : Int):=by rw [wrap_i64 (by omega) (by omega)]; omega
   generalize hwx : widN x = wx at *
   generalize hws : widN (x) = ws at *
   refine Ua (J8 c2 d2 m1 m2 z1 z2 z3 (J3 z5 z6 e1)) ?_
   simp [pf594, *]

theorem t583 (x : Nat) (h : x < 2147483648) : Gw TT 583 [.one (.ro false (.int .u64 (x : Int)))] = some (vi ((widN x : Nat) : Int),[]):=by
 refine Ga pf583 pb583 ?_
 unfold pb583
 refine Ua (J2 @t594 h) ?_
 all_goals simp [pf583]

def widI (n : Int) : Int:=if 0 ≤ n ∧ n ≤ 2147483647 then ((widN n.toNat : Nat) : Int) else 0
theorem widI_le (n : Int) : 0 ≤ widI n ∧ widI n ≤ 31:=by
 unfold widI; split
 ·have:=widN_le 31 n.toNat (by omega)
  omega
 ·omega

@[simp] theorem t555 (n : Int) : Gw TT 555 [vi n] = some (vi (widI n),[]):=by
 refine Ga pf555 pb555 ?_
 unfold pb555
 by_cases q : 1 ≤ n ∧ n ≤ 2147483647
 ·obtain ⟨m,rfl⟩:=Int.eq_ofNat_of_zero_le (show 0 ≤ n by omega)
  have q1 : (1 : Int) ≤ (m : Int):=q.1
  have q2 : (m : Int) ≤ 2147483647:=q.2
  have q3 : m < 2147483648:=by omega
  have hw : IntKind.wrap .u64 (m : Int) = (m : Int):=by simp [IntKind.wrap,IntKind.signed,IntKind.bits]; omega
  have hi : widI (m : Int) = ((widN m : Nat) : Int):=by simp [widI]; omega
  refine Uw (J5 q1 q2 hw @t583 q3) ?_
  simp [pf555,hi]
 ·have hi : widI n = 0:=by
   unfold widI; split
   ·rw [show n.toNat = 0 by omega,widN_zero]; try rfl
   ·rfl
  refine Uw Oo ?_
  repeat intro hc
  simp [pf555,hi]

@[simp] theorem t542 (n : Int) : Gw TT 542 [vi n] = some (vi (widI n),[]):=by
 refine Ga pf542 pb542 ?_
 unfold pb542
 by_cases q : 0 ≤ n ∧ n ≤ 2147483647
 ·obtain ⟨m,rfl⟩:=Int.eq_ofNat_of_zero_le q.1
  have q2 : (m : Int) ≤ 2147483647:=q.2
  have hi : widI (m : Int) = ((widN m : Nat) : Int):=by simp [widI]; omega
  have hw0:=widN_le 31 m (by omega)
  refine Uw q2 ?_
  refine wp_loopI (σ:=Nat × Nat) (fun s => [(3,AV.v false (di (s.1 : Nat)),none),(4,AV.v false (di (s.2 : Nat)),none)]) (fun s => s.1 + widN s.2 = widN m ∧ s.2 ≤ m) (fun s => s.2) (0,m) (by simp) ⟨by simp,Nat.le_refl _⟩ ?_
  rintro ⟨w,x⟩ ⟨y1,y2⟩
  simp only at y1 y2
  by_cases c1 : x = 0
  ·subst c1
   rw [widN_zero] at y1
   simp only [Nat.add_zero] at y1
   unfold pl542_0
   refine Uw Oo ?_
   simp [pf542,hi,y1]
  ·rw [widN_pos c1] at y1
   have c2 : (0 : Int) < (x : Int):=by omega
   have hw1:=Wi ((w : Int) + 1)
   have hw2:=Wi ((x : Int) / 2)
   have hw3 : IntKind.wrap .i64 ((x : Int).tdiv 2) = (x : Int) / 2:=by rw [Int.tdiv_eq_ediv_of_nonneg (by omega)]; exact hw2
   unfold pl542_0
   refine Uw (J3 c2 hw1 hw3) ?_
   repeat intro hc
   exact ⟨(w + 1,x / 2),by simp [hw2],⟨by show w + 1 + widN (x / 2) = widN m; omega,by show x / 2 ≤ m; omega⟩,by show x / 2 < x; omega⟩
 ·have hi : widI n = 0:=by simp [widI,q]
  refine Uw Oo ?_
  repeat intro hc
  simp [pf542,hi]

def wfF : Int → List Int → Int
 | w,[] => w
 | w,n :: l => wfF (if w < widI n then widI n else w) l
theorem wfF_rng : ∀ (l : List Int) (w : Int),0 ≤ w ∧ w ≤ 31 → 0 ≤ wfF w l ∧ wfF w l ≤ 31
 | [],w,h => h
 | n :: l,w,h => by
  simp only [wfF]
  have:=widI_le n
  exact wfF_rng l _ (by split <;> omega)

@[simp] theorem t588 (k0 : Bool) (l : List Int) (h : l.length ≤ 1048576) : Gw TT 588 [.one (.ro k0 (.sl 1 (l.map ei)))] = some (vi (wfF 0 l),[]):=by
 refine Ga pf588 pb588 ?_
 unfold pb588
 refine Ud Oo ?_
 refine wp_loopI (σ:=List (Int) × List (Int) × Int) (fun s => [(3,AV.v false (di s.2.2),none),(6,AV.v k0 (D.sl 1 (l.map ei)),none),(7,AV.v false (di (l.length : Nat)),none),(8,AV.v false (di ((s.1.length : Nat) : Int)),none)]) (fun s => l = s.1 ++ s.2.1 ∧ wfF s.2.2 s.2.1 = wfF 0 l) (fun s => s.2.1.length) ([],l,0) (by simp) ⟨rfl,rfl⟩ ?_
 rintro ⟨pre,rest,a⟩ ⟨h1,h2⟩
 simp only at h1 h2
 subst h1
 simp only [List.length_append,List.length_cons] at h
 rcases rest with _ | ⟨d,rest⟩
 ·unfold pl588_0
  simp only [wfF] at h2
  refine Ud Oo ?_
  simp_all [pf588]
 ·unfold pl588_0
  simp only [List.length_cons] at h
  simp only [wfF] at h2
  have hw:=Wi ((pre.length : Int) + 1)
  refine Ud hw ?_
  repeat intro hc
  (refine ⟨(pre ++ [d],rest,(if a < widI d then widI d else a)),?_,⟨?_,?_⟩,?_⟩; (focus (first | (simp; done) | (simp_all; done))); (focus (simp; done)); (focus (refine Eq.trans ?_ h2; clear h2; first | (simp [*]; done) | (simp_all; done) | (split <;> simp_all <;> omega) | (split <;> first | (exfalso; omega) | (simp_all; done)))); (focus (simp; done)))

@[simp] theorem t576 (k0 : Bool) (l : List Int) (h : l.length ≤ 1048576) : Gw TT 576 [.one (.ro k0 (.sl 1 (l.map ei)))] = some (vi (wfF 0 l),[]):=by
 refine Ga pf576 pb576 ?_
 unfold pb576
 refine Ud Oo ?_
 refine wp_loopI (σ:=List (Int) × List (Int) × Int) (fun s => [(0,AV.v k0 (D.sl 1 (l.map ei)),none),(3,AV.v false (di s.2.2),none),(4,AV.v false (di ((s.1.length : Nat) : Int)),none)]) (fun s => l = s.1 ++ s.2.1 ∧ wfF s.2.2 s.2.1 = wfF 0 l) (fun s => s.2.1.length) ([],l,0) (by simp) ⟨rfl,rfl⟩ ?_
 rintro ⟨pre,rest,a⟩ ⟨h1,h2⟩
 simp only at h1 h2
 subst h1
 simp only [List.length_append,List.length_cons] at h
 rcases rest with _ | ⟨d,rest⟩
 ·unfold pl576_0
  simp only [wfF] at h2
  refine Ud Oo ?_
  simp_all [pf576]
 ·unfold pl576_0
  simp only [List.length_cons] at h
  simp only [wfF] at h2
  have hw:=Wi ((pre.length : Int) + 1)
  refine Ud hw ?_ ?_
  all_goals repeat intro hc
  all_goals first | (refine ⟨(pre ++ [d],rest,widI d),?_,⟨?_,?_⟩,?_⟩; (focus (first | (simp; done) | (simp_all; done))); (focus (simp; done)); (focus (refine Eq.trans ?_ h2; clear h2; first | (simp [*]; done) | (simp_all; done) | (split <;> simp_all <;> omega) | (split <;> first | (exfalso; omega) | (simp_all; done)))); (focus (simp; done))) | (refine ⟨(pre ++ [d],rest,a),?_,⟨?_,?_⟩,?_⟩; (focus (first | (simp; done) | (simp_all; done))); (focus (simp; done)); (focus (refine Eq.trans ?_ h2; clear h2; first | (simp [*]; done) | (simp_all; done) | (split <;> simp_all <;> omega) | (split <;> first | (exfalso; omega) | (simp_all; done)))); (focus (simp; done)))

def fitB (w : Int) : List Int → Bool
 | [] => true
 | n :: l => if (0 ≤ n ∧ n ≤ 2147483647) ∧ widI n ≤ w then fitB w l else false

@[simp] theorem t592 (k0 : Bool) (l : List Int) (h : l.length ≤ 1048576) (w : Int) : Gw TT 592 [.one (.ro k0 (.sl 1 (l.map ei))),vi w] = some (vb (fitB w l && (decide (0 ≤ w) && decide (w ≤ 31))),[]):=by
 refine Ga pf592 pb592 ?_
 unfold pb592
 refine Ud Oo ?_
 refine wp_loopI (σ:=List (Int) × List (Int)) (fun s => [(0,AV.v k0 (D.sl 1 (l.map ei)),none),(1,AV.v false (di w),none),(5,AV.v false (di ((s.1.length : Nat) : Int)),none)]) (fun s => l = s.1 ++ s.2 ∧ fitB w s.2 = fitB w l) (fun s => s.2.length) ([],l) (by simp) ⟨rfl,rfl⟩ ?_
 rintro ⟨pre,rest⟩ ⟨h1,h2⟩
 simp only at h1 h2
 subst h1
 simp only [List.length_append,List.length_cons] at h
 rcases rest with _ | ⟨d,rest⟩
 ·unfold pl592_0
  simp only [fitB] at h2
  refine Ud Oo ?_
  simp_all [pf592]
 ·unfold pl592_0
  simp only [List.length_cons] at h
  simp only [fitB] at h2
  have hw:=Wi ((pre.length : Int) + 1)
  refine Ud hw ?_ ?_ ?_
  all_goals repeat intro hc
  all_goals first | (refine ⟨(pre ++ [d],rest),?_,⟨?_,?_⟩,?_⟩; (focus (first | (simp; done) | (simp_all; done))); (focus (simp; done)); (focus (refine Eq.trans ?_ h2; clear h2; first | (simp [*]; done) | (simp_all; done) | (split <;> simp_all <;> omega) | (split <;> first | (exfalso; omega) | (simp_all; done)))); (focus (simp; done))) | (split at h2 <;> first | (exfalso; omega) | (simp_all [pf592]; done))

def bfF (k w : Int) : Int:=if (0 ≤ k ∧ k ≤ 64) ∧ (0 ≤ w ∧ w ≤ 31) then (k * w + 7) / 8 else 0

@[simp] theorem t581 (k w : Int) : Gw TT 581 [vi k,vi w] = some (vi (bfF k w),[]):=by
 refine Ga pf581 pb581 ?_
 unfold pb581
 by_cases q : (0 ≤ k ∧ k ≤ 64) ∧ (0 ≤ w ∧ w ≤ 31)
 ·have hm0 : 0 ≤ k * w:=Int.mul_nonneg q.1.1 q.2.1
  have hm1 : k * w ≤ 64 * 31:=Int.mul_le_mul q.1.2 q.2.2 q.2.1 (by omega)
  have hi : bfF k w = (k * w + 7) / 8:=by simp [bfF,q]
  have w1:=Wi (k * w)
  have w2:=Wi (k * w + 7)
  have w3 : IntKind.wrap .i64 ((k * w + 7).tdiv 8) = (k * w + 7) / 8:=by rw [Int.tdiv_eq_ediv_of_nonneg (by omega)]; exact wrap_i64 (by omega) (by omega)
  refine Ud (J7 q.1.1 q.1.2 q.2.1 q.2.2 w1 w2 w3) ?_
  simp [pf581,hi]
 ·have hi : bfF k w = 0:=by simp [bfF]; intro _ _ _ _; exfalso; omega
  refine Ud Oo ?_ ?_
  all_goals repeat intro hc
  all_goals simp [pf581,hi]

@[simp] theorem t570 (k w : Int) : Gw TT 570 [vi k,vi w] = some (vi (bfF k w),[]):=by
 refine Ga pf570 pb570 ?_
 unfold pb570
 by_cases q : (0 ≤ k ∧ k ≤ 64) ∧ (0 ≤ w ∧ w ≤ 31)
 ·have hm0 : 0 ≤ k * w:=Int.mul_nonneg q.1.1 q.2.1
  have hm1 : k * w ≤ 64 * 31:=Int.mul_le_mul q.1.2 q.2.2 q.2.1 (by omega)
  have hi : bfF k w = (k * w + 7) / 8:=by simp [bfF,q]
  have w1:=Wi (k * w)
  have w2:=Wi (k * w + 7)
  have w3 : IntKind.wrap .i64 ((k * w + 7).tdiv 8) = (k * w + 7) / 8:=by rw [Int.tdiv_eq_ediv_of_nonneg (by omega)]; exact wrap_i64 (by omega) (by omega)
  refine Ud (J7 q.1.1 q.1.2 q.2.1 q.2.2 w1 w2 w3) ?_
  simp [pf570,hi]
 ·have hi : bfF k w = 0:=by simp [bfF]; intro _ _ _ _; exfalso; omega
  refine Ud Oo ?_ ?_
  all_goals repeat intro hc
  all_goals simp [pf570,hi]

def bitN (b : List Int) (m : Nat) : Nat:=match b[m / 8]? with
 | some c => c.toNat / 2 ^ (m % 8) % 2
 | none => 0
theorem bitN_le (b : List Int) (m : Nat) : bitN b m ≤ 1:=by
 unfold bitN; split <;> omega

@[simp] theorem t582 (k0 : Bool) (b : List Int) (m : Nat) (h : b.length ≤ 1048576) (hb : bytesOk b) (hm : m ≤ 4611686018427387904) : Gw TT 582 [.one (.ro k0 (.sl 1 (b.map eb))),vi (m : Nat)] = some (vi ((bitN b m : Nat) : Int),[]):=by
 refine Ga pf582 pb582 ?_
 unfold pb582
 have d1 : (m : Int).tdiv 8 = ((m / 8 : Nat) : Int):=by rw [Int.tdiv_eq_ediv_of_nonneg (by omega)]; omega
 have d2 : (m : Int).tmod 8 = ((m % 8 : Nat) : Int):=by rw [Int.tmod_eq_emod_of_nonneg (by omega)]; omega
 have d3:=Wi ((m : Int) / 8)
 have d4 : IntKind.wrap .i64 ((m : Int).tdiv 8) = (m : Int) / 8:=by rw [Int.tdiv_eq_ediv_of_nonneg (by omega)]; exact d3
 by_cases q : m / 8 < b.length
 ·obtain ⟨c,hg⟩ : ∃ c,b[m / 8]? = some c:=⟨_,List.getElem?_eq_getElem q⟩
  have hce : b[m / 8] = c:=(List.getElem?_eq_some_iff.1 hg).2
  have hc0:=hb c (List.mem_of_getElem? hg)
  obtain ⟨cn,rfl⟩:=Int.eq_ofNat_of_zero_le hc0.1
  have hi : bitN b m = cn / 2 ^ (m % 8) % 2:=by simp [bitN,hg]
  have q1 : (m : Int) / 8 < (b.length : Int):=by omega
  have q2 : ¬ (b.length : Int) ≤ (m : Int) / 8:=by omega
  have q3 : ((m : Int) / 8).toNat = m / 8:=by omega
  have q4 : (0 : Int) ≤ (m : Int) / 8:=by omega
  have r0 : ¬ ((m : Int) % 8 < 0):=by omega
  have r1 : ((m : Int) % 8).toNat = m % 8:=by omega
  have r2 : min (m % 8) IntKind.u8.bits = m % 8:=by simp [IntKind.bits]; omega
  have r3 : min (m % 8) IntKind.i64.bits = m % 8:=by simp [IntKind.bits]; omega
  obtain ⟨v,hv⟩ : ∃ v,v = cn / 2 ^ (m % 8):=⟨_,rfl⟩
  have hvl : v ≤ 255:=by rw [hv]; exact Nat.le_trans (Nat.div_le_self _ _) (by omega)
  have r4 : (cn : Int).fdiv (2 ^ (m % 8)) = (v : Int):=by
   rw [Int.fdiv_eq_ediv_of_nonneg _ (Int.le_of_lt (Int.pow_pos (by omega))),hv]; simp
  have r5 : v % 2 ^ IntKind.u8.bits = v:=by simp [IntKind.bits]; omega
  have r6 : v % 2 ^ IntKind.i64.bits = v:=by simp [IntKind.bits]; omega
  have r7 : 1 % 2 ^ IntKind.u8.bits = 1:=by simp [IntKind.bits]
  have r8 : 1 % 2 ^ IntKind.i64.bits = 1:=by simp [IntKind.bits]
  have r9 : IntKind.wrap .i64 (cn : Int) = (cn : Int):=wrap_i64 (by omega) (by omega)
  have s1 : IntKind.wrap .u8 ((v : Int) % 2) = (v : Int) % 2:=wrap_u8 (by omega) (by omega)
  have s2:=Wi ((v : Int) % 2)
  rw [← hv] at hi
  refine Ud (J8 q q1 q2 q3 q4 hg hce (J8 d2 d3 d4 r0 r1 r2 r3 (J8 r4 r5 r6 r7 r8 r9 s1 s2))) ?_
  repeat intro hc
  simp [pf582,hi]
 ·have hi : bitN b m = 0:=by simp [bitN,List.getElem?_eq_none (show b.length ≤ m / 8 by omega)]
  have q2 : (b.length : Int) ≤ (m : Int) / 8:=by omega
  refine Ud (J3 q2 d3 d4) ?_
  repeat intro hc
  simp [pf582,hi]

@[simp] theorem t571 (k0 : Bool) (b : List Int) (m : Nat) (h : b.length ≤ 1048576) (hb : bytesOk b) (hm : m ≤ 4611686018427387904) : Gw TT 571 [.one (.ro k0 (.sl 1 (b.map eb))),vi (m : Nat)] = some (vi ((bitN b m : Nat) : Int),[]):=by
 refine Ga pf571 pb571 ?_
 unfold pb571
 have d1 : (m : Int).tdiv 8 = ((m / 8 : Nat) : Int):=by rw [Int.tdiv_eq_ediv_of_nonneg (by omega)]; omega
 have d2 : (m : Int).tmod 8 = ((m % 8 : Nat) : Int):=by rw [Int.tmod_eq_emod_of_nonneg (by omega)]; omega
 have d3:=Wi ((m : Int) / 8)
 have d4 : IntKind.wrap .i64 ((m : Int).tdiv 8) = (m : Int) / 8:=by rw [Int.tdiv_eq_ediv_of_nonneg (by omega)]; exact d3
 by_cases q : m / 8 < b.length
 ·obtain ⟨c,hg⟩ : ∃ c,b[m / 8]? = some c:=⟨_,List.getElem?_eq_getElem q⟩
  have hce : b[m / 8] = c:=(List.getElem?_eq_some_iff.1 hg).2
  have hc0:=hb c (List.mem_of_getElem? hg)
  obtain ⟨cn,rfl⟩:=Int.eq_ofNat_of_zero_le hc0.1
  have hi : bitN b m = cn / 2 ^ (m % 8) % 2:=by simp [bitN,hg]
  have q1 : (m : Int) / 8 < (b.length : Int):=by omega
  have q2 : ¬ (b.length : Int) ≤ (m : Int) / 8:=by omega
  have q3 : ((m : Int) / 8).toNat = m / 8:=by omega
  have q4 : (0 : Int) ≤ (m : Int) / 8:=by omega
  have r0 : ¬ ((m : Int) % 8 < 0):=by omega
  have r1 : ((m : Int) % 8).toNat = m % 8:=by omega
  have r2 : min (m % 8) IntKind.u8.bits = m % 8:=by simp [IntKind.bits]; omega
  have r3 : min (m % 8) IntKind.i64.bits = m % 8:=by simp [IntKind.bits]; omega
  obtain ⟨v,hv⟩ : ∃ v,v = cn / 2 ^ (m % 8):=⟨_,rfl⟩
  have hvl : v ≤ 255:=by rw [hv]; exact Nat.le_trans (Nat.div_le_self _ _) (by omega)
  have r4 : (cn : Int).fdiv (2 ^ (m % 8)) = (v : Int):=by
   rw [Int.fdiv_eq_ediv_of_nonneg _ (Int.le_of_lt (Int.pow_pos (by omega))),hv]; simp
  have r5 : v % 2 ^ IntKind.u8.bits = v:=by simp [IntKind.bits]; omega
  have r6 : v % 2 ^ IntKind.i64.bits = v:=by simp [IntKind.bits]; omega
  have r7 : 1 % 2 ^ IntKind.u8.bits = 1:=by simp [IntKind.bits]
  have r8 : 1 % 2 ^ IntKind.i64.bits = 1:=by simp [IntKind.bits]
  have r9 : IntKind.wrap .i64 (cn : Int) = (cn : Int):=wrap_i64 (by omega) (by omega)
  have s1 : IntKind.wrap .u8 ((v : Int) % 2) = (v : Int) % 2:=wrap_u8 (by omega) (by omega)
  have s2:=Wi ((v : Int) % 2)
  rw [← hv] at hi
  refine Ud (J8 q q1 q2 q3 q4 hg hce (J8 d2 d3 d4 r0 r1 r2 r3 (J8 r4 r5 r6 r7 r8 r9 s1 s2))) ?_
  repeat intro hc
  simp [pf571,hi]
 ·have hi : bitN b m = 0:=by simp [bitN,List.getElem?_eq_none (show b.length ≤ m / 8 by omega)]
  have q2 : (b.length : Int) ≤ (m : Int) / 8:=by omega
  refine Ud (J3 q2 d3 d4) ?_
  repeat intro hc
  simp [pf571,hi]

def orRow (b : List Int) : Nat → Nat → Nat → Nat → Nat
 | 0,_,_,a => a
 | r + 1,p,j,a => orRow b r (p + 1) (j + 1) (a ||| bitN b p * 2 ^ j)
def unpRows (b : List Int) (w : Nat) : Nat → Nat → List Int
 | 0,_ => []
 | r + 1,i => ((orRow b w (i * w) 0 0 : Nat) : Int) :: unpRows b w r (i + 1)
def zerosB (b : List Int) : Nat → Nat → Bool
 | 0,_ => true
 | r + 1,p => if bitN b p = 0 then zerosB b r (p + 1) else false
theorem unpRows_len (b : List Int) (w : Nat) : ∀ (r i : Nat),(unpRows b w r i).length = r
 | 0,i => rfl
 | r + 1,i => by simp [unpRows,unpRows_len b w r (i + 1)]

def unpF (b : List Int) (w k : Int) : Option (List Int):=if ((0 ≤ w ∧ w ≤ 31) ∧ (0 ≤ k ∧ k ≤ 64)) ∧ (b.length : Int) = bfF k w then
 (if zerosB b (8 * b.length - k.toNat * w.toNat) (k.toNat * w.toNat) = true then some (unpRows b w.toNat k.toNat 0) else none) else none

def olV (r : Option (List Int)) : V:=match r with
 | some l => .tup [.one (.own (.sl 1 (l.map ei))),vb true]
 | none => .tup [.one (.own (.sl 1 [])),vb false]
@[simp] theorem olV_some (l : List Int) : olV (some l) = .tup [.one (.own (.sl 1 (l.map ei))),vb true]:=rfl
@[simp] theorem olV_none : olV none = .tup [.one (.own (.sl 1 [])),vb false]:=rfl

theorem orRow_lt (b : List Int) : ∀ (r p j a : Nat),a < 2 ^ j → orRow b r p j a < 2 ^ (j + r)
 | 0,p,j,a,h => h
 | r + 1,p,j,a,h => by
  simp only [orRow]
  have h1 : bitN b p * 2 ^ j < 2 ^ (j + 1):=by
   have:=bitN_le b p
   have h2 : bitN b p * 2 ^ j ≤ 1 * 2 ^ j:=Nat.mul_le_mul this (Nat.le_refl _)
   have:=Nat.two_pow_pos j
   rw [Nat.pow_succ]; omega
  have:=orRow_lt b r (p + 1) (j + 1) (a ||| bitN b p * 2 ^ j) (Nat.or_lt_two_pow (Nat.lt_of_lt_of_le h (Nat.pow_le_pow_right (by omega) (by omega))) h1)
  rw [show j + (r + 1) = j + 1 + r by omega]; exact this

@[simp] theorem t554 (k0 : Bool) (b : List Int) (w k : Int) (h : b.length ≤ 1048576) (hb : bytesOk b) : Gw TT 554 [.one (.ro k0 (.sl 1 (b.map eb))),vi w,vi k] = some (olV (unpF b w k),[]):=by
 refine Ga pf554 pb554 ?_
 unfold pb554
 by_cases q1 : 0 ≤ w ∧ w ≤ 31
 ·by_cases q2 : 0 ≤ k ∧ k ≤ 64
  ·by_cases q3 : (b.length : Int) = bfF k w
   ·obtain ⟨wn,rfl⟩:=Int.eq_ofNat_of_zero_le q1.1
    obtain ⟨kn,rfl⟩:=Int.eq_ofNat_of_zero_le q2.1
    have q4 : (wn : Int) ≤ 31:=q1.2
    have q5 : (kn : Int) ≤ 64:=q2.2
    have hbf : bfF (kn : Int) (wn : Int) = ((kn : Int) * (wn : Int) + 7) / 8:=by simp [bfF,q4,q5]
    obtain ⟨T,hT⟩ : ∃ T,T = kn * wn:=⟨_,rfl⟩
    have hT2 : (kn : Int) * (wn : Int) = (T : Int):=by rw [hT]; simp
    have hTl : T ≤ 64 * 31:=by rw [hT]; exact Nat.mul_le_mul (by omega) (by omega)
    have hlen : b.length = (T + 7) / 8:=by rw [hbf,hT2] at q3; omega
    have hun : unpF b (wn : Int) (kn : Int) = if zerosB b (8 * b.length - T) T = true then some (unpRows b wn kn 0) else none:=by
     unfold unpF; rw [if_pos ⟨⟨q1,q2⟩,q3⟩]; simp [hT]
    refine Ud (J5 q4 q5 q3 h hb) ?_
    refine wp_loopI (σ:=List Int × Nat) (fun s => [(0,AV.v k0 (D.sl 1 (b.map eb)),none),(1,AV.v false (di (wn : Nat)),none),(2,AV.v false (di (kn : Nat)),none),(8,AV.pl 8 0 [],some (Rt.vir [C.own (D.sl 1 ((s.1).map ei))])),(9,AV.v false (di (s.2 : Nat)),none)]) (fun s => s.2 ≤ kn ∧ s.1.length = s.2 ∧ unpRows b wn kn 0 = s.1 ++ unpRows b wn (kn - s.2) s.2) (fun s => kn - s.2) ([],0) (by simp) ⟨by simp,rfl,by simp⟩ ?_
    rintro ⟨a,i⟩ ⟨y1,y2,y3⟩
    simp only at y1 y2 y3
    by_cases c1 : i = kn
    ·subst c1
     have c2 : ¬ (i : Int) < (i : Int):=by omega
     simp only [Nat.sub_self,unpRows,List.append_nil] at y3
     have hTw : IntKind.wrap .i64 ((i : Int) * (wn : Int)) = (T : Int):=by rw [hT2]; exact wrap_i64 (by omega) (by omega)
     unfold pl554_2
     refine Ud hTw ?_
     refine wp_loopI (σ:=Nat) (fun s => [(0,AV.v k0 (D.sl 1 (b.map eb)),none),(8,AV.pl 8 0 [],some (Rt.vir [C.own (D.sl 1 ((a).map ei))])),(12,AV.v false (di (s : Nat)),none)]) (fun s => s ≤ 8 * b.length ∧ zerosB b (8 * b.length - T) T = zerosB b (8 * b.length - s) s) (fun s => 8 * b.length - s) T (by simp) ⟨by omega,rfl⟩ ?_
     rintro p ⟨x1,x2⟩
     have w8:=Wi (8 * (b.length : Int))
     by_cases e1 : p = 8 * b.length
     ·have e2 : ¬ (p : Int) < 8 * (b.length : Int):=by omega
      rw [e1,Nat.sub_self] at x2
      simp only [zerosB] at x2
      rw [if_pos x2] at hun
      unfold pl554_0
      refine Ud (J3 w8 e2 hun) ?_
      simp [pf554,hun,y3]
     ·have e2 : (p : Int) < 8 * (b.length : Int):=by omega
      have hw1:=Wi ((p : Int) + 1)
      rw [show 8 * b.length - p = (8 * b.length - (p + 1)) + 1 by omega] at x2
      simp only [zerosB] at x2
      have hpm : p ≤ 4611686018427387904:=by omega
      have hbl:=bitN_le b p
      by_cases e3 : bitN b p = 0
      ·rw [if_pos e3] at x2
       unfold pl554_0
       refine Ud (J7 w8 e2 hw1 h hb hpm e3) ?_
       exact ⟨p + 1,by simp,⟨by omega,x2⟩,by show 8 * b.length - (p + 1) < 8 * b.length - p; omega⟩
      ·rw [if_neg e3] at x2
       rw [if_neg (by rw [x2]; simp)] at hun
       unfold pl554_0
       refine Ud (J8 w8 e2 hw1 h hb hpm e3 hun) ?_
       repeat intro hc
       simp [pf554,hun]
    ·have c2 : (i : Int) < (kn : Int):=by omega
     have hs : kn - i = (kn - (i + 1)) + 1:=by omega
     rw [hs] at y3
     simp only [unpRows] at y3
     obtain ⟨R,hR⟩ : ∃ R,R = orRow b wn (i * wn) 0 0:=⟨_,rfl⟩
     obtain ⟨P,hP⟩ : ∃ P,P = i * wn:=⟨_,rfl⟩
     have hP2 : (i : Int) * (wn : Int) = (P : Int):=by rw [hP]; simp
     have hPl : P ≤ 64 * 31:=by rw [hP]; exact Nat.mul_le_mul (by omega) (by omega)
     have hw1:=Wi ((i : Int) + 1)
     have hPw : IntKind.wrap .i64 ((i : Int) * (wn : Int)) = (P : Int):=by rw [hP2]; exact wrap_i64 (by omega) (by omega)
     rw [← hR] at y3
     rw [← hP] at hR
     have hRl : R < 2 ^ 31:=by
      have:=orRow_lt b wn P 0 0 (by simp)
      rw [← hR] at this
      exact Nat.lt_of_lt_of_le this (Nat.pow_le_pow_right (by omega) (by omega))
     unfold pl554_2
     refine Ud c2 ?_
     refine wp_loopI (σ:=Nat × Nat) (fun s => [(0,AV.v k0 (D.sl 1 (b.map eb)),none),(1,AV.v false (di (wn : Nat)),none),(2,AV.v false (di (kn : Nat)),none),(8,AV.pl 8 0 [],some (Rt.vir [C.own (D.sl 1 ((a).map ei))])),(9,AV.v false (di (i : Nat)),none),(10,AV.v false (di (s.2 : Nat)),none),(11,AV.v false (di (s.1 : Nat)),none)]) (fun s => s.1 ≤ wn ∧ s.2 < 2 ^ s.1 ∧ R = orRow b (wn - s.1) (P + s.1) s.1 s.2) (fun s => wn - s.1) (0,0) (by simp) ⟨by simp,by simp,by simpa using hR⟩ ?_
     rintro ⟨j,x⟩ ⟨x1,x2,x3⟩
     simp only at x1 x2 x3
     by_cases e1 : j = wn
     ·subst e1
      have e2 : ¬ (j : Int) < (j : Int):=by omega
      simp only [Nat.sub_self,orRow] at x3
      subst x3
      have hq : (a.length + 1) * 8 ≤ 70368744177664:=by omega
      unfold pl554_1
      refine Ud (J2 hw1 hq) ?_
      exact ⟨(a ++ [(R : Int)],i + 1),by simp,⟨by omega,by simp [y2],by rw [y3]; simp⟩,by show kn - (i + 1) < kn - i; omega⟩
     ·have e2 : (j : Int) < (wn : Int):=by omega
      rw [show wn - j = (wn - (j + 1)) + 1 by omega] at x3
      simp only [orRow] at x3
      have hcl:=t582 k0 b (P + j) h hb (by omega)
      simp only [Int.natCast_add] at hcl
      have hbl:=bitN_le b (P + j)
      generalize bitN b (P + j) = v at *
      obtain ⟨t,ht⟩ : ∃ t,t = v * 2 ^ j:=⟨_,rfl⟩
      have hj2 : (2 : Nat) ^ j ≤ 2 ^ 30:=Nat.pow_le_pow_right (by omega) (by omega)
      have htl : t ≤ 2 ^ 30:=by rw [ht]; exact Nat.le_trans (Nat.mul_le_mul hbl hj2) (by simp)
      have z1:=Wi ((P : Int) + (j : Int))
      have z2 : min j IntKind.i64.bits = j:=by simp [IntKind.bits]; omega
      have z3 : IntKind.wrap .i64 ((v : Int) * 2 ^ j) = (t : Int):=by rw [show (v : Int) * 2 ^ j = (t : Int) by rw [ht]; simp]; exact wrap_i64 (by omega) (by omega)
      rw [← ht] at x3
      have hj3 : (2 : Nat) ^ (j + 1) = 2 * 2 ^ j:=by rw [Nat.pow_succ]; omega
      have htj : t < 2 ^ (j + 1):=by
       have : t ≤ 1 * 2 ^ j:=by rw [ht]; exact Nat.mul_le_mul hbl (Nat.le_refl _)
       have:=Nat.two_pow_pos j
       omega
      have hol : x ||| t < 2 ^ (j + 1):=Nat.or_lt_two_pow (by omega) htj
      have hol2 : x ||| t < 2 ^ 31:=Nat.lt_of_lt_of_le hol (Nat.pow_le_pow_right (by omega) (by omega))
      have z4 : x % 2 ^ IntKind.i64.bits = x:=by simp only [IntKind.bits]; omega
      have z5 : t % 2 ^ IntKind.i64.bits = t:=by simp only [IntKind.bits]; omega
      have z6 : IntKind.wrap .i64 ((x ||| t : Nat) : Int) = ((x ||| t : Nat) : Int):=wrap_i64 (by omega) (by omega)
      have z7:=Wi ((j : Int) + 1)
      have z0 : ¬ (j : Int) < 0:=by omega
      unfold pl554_1
      refine Ud (J8 e2 hPw z0 z1 hcl z2 z3 (J4 z4 z5 z6 z7)) ?_
      exact ⟨(j + 1,x ||| t),by simp,⟨by omega,hol,by rw [x3]; rfl⟩,by show wn - (j + 1) < wn - j; omega⟩
   ·have hn : unpF b w k = none:=by unfold unpF; rw [if_neg (fun e => q3 e.2)]
    refine Ud (J6 q1.1 q1.2 q2.1 q2.2 q3 hn) ?_
    repeat intro hc
    simp [pf554,hn]
  ·have hn : unpF b w k = none:=by unfold unpF; rw [if_neg (fun e => q2 e.1.2)]
   refine Ud (J3 q1.1 q1.2 hn) ?_
   repeat intro hc
   simp [pf554,hn]
 ·have hn : unpF b w k = none:=by unfold unpF; rw [if_neg (fun e => q1 e.1.1)]
  refine Ud hn ?_
  repeat intro hc
  simp [pf554,hn]

@[simp] theorem t541 (k0 : Bool) (b : List Int) (w k : Int) (h : b.length ≤ 1048576) (hb : bytesOk b) : Gw TT 541 [.one (.ro k0 (.sl 1 (b.map eb))),vi w,vi k] = some (olV (unpF b w k),[]):=by
 refine Ga pf541 pb541 ?_
 unfold pb541
 by_cases q1 : 0 ≤ w ∧ w ≤ 31
 ·by_cases q2 : 0 ≤ k ∧ k ≤ 64
  ·by_cases q3 : (b.length : Int) = bfF k w
   ·obtain ⟨wn,rfl⟩:=Int.eq_ofNat_of_zero_le q1.1
    obtain ⟨kn,rfl⟩:=Int.eq_ofNat_of_zero_le q2.1
    have q4 : (wn : Int) ≤ 31:=q1.2
    have q5 : (kn : Int) ≤ 64:=q2.2
    have hbf : bfF (kn : Int) (wn : Int) = ((kn : Int) * (wn : Int) + 7) / 8:=by simp [bfF,q4,q5]
    obtain ⟨T,hT⟩ : ∃ T,T = kn * wn:=⟨_,rfl⟩
    have hT2 : (kn : Int) * (wn : Int) = (T : Int):=by rw [hT]; simp
    have hTl : T ≤ 64 * 31:=by rw [hT]; exact Nat.mul_le_mul (by omega) (by omega)
    have hlen : b.length = (T + 7) / 8:=by rw [hbf,hT2] at q3; omega
    have hun : unpF b (wn : Int) (kn : Int) = if zerosB b (8 * b.length - T) T = true then some (unpRows b wn kn 0) else none:=by
     unfold unpF; rw [if_pos ⟨⟨q1,q2⟩,q3⟩]; simp [hT]
    refine Ud (J5 q4 q5 q3 h hb) ?_
    refine wp_loopI (σ:=List Int × Nat) (fun s => [(0,AV.v k0 (D.sl 1 (b.map eb)),none),(1,AV.v false (di (wn : Nat)),none),(2,AV.v false (di (kn : Nat)),none),(8,AV.pl 8 0 [],some (Rt.vir [C.own (D.sl 1 ((s.1).map ei))])),(9,AV.v false (di (s.2 : Nat)),none)]) (fun s => s.2 ≤ kn ∧ s.1.length = s.2 ∧ unpRows b wn kn 0 = s.1 ++ unpRows b wn (kn - s.2) s.2) (fun s => kn - s.2) ([],0) (by simp) ⟨by simp,rfl,by simp⟩ ?_
    rintro ⟨a,i⟩ ⟨y1,y2,y3⟩
    simp only at y1 y2 y3
    by_cases c1 : i = kn
    ·subst c1
     have c2 : ¬ (i : Int) < (i : Int):=by omega
     simp only [Nat.sub_self,unpRows,List.append_nil] at y3
     have hTw : IntKind.wrap .i64 ((i : Int) * (wn : Int)) = (T : Int):=by rw [hT2]; exact wrap_i64 (by omega) (by omega)
     unfold pl541_2
     refine Ud hTw ?_
     refine wp_loopI (σ:=Nat) (fun s => [(0,AV.v k0 (D.sl 1 (b.map eb)),none),(8,AV.pl 8 0 [],some (Rt.vir [C.own (D.sl 1 ((a).map ei))])),(12,AV.v false (di (s : Nat)),none)]) (fun s => s ≤ 8 * b.length ∧ zerosB b (8 * b.length - T) T = zerosB b (8 * b.length - s) s) (fun s => 8 * b.length - s) T (by simp) ⟨by omega,rfl⟩ ?_
     rintro p ⟨x1,x2⟩
     have w8:=Wi (8 * (b.length : Int))
     by_cases e1 : p = 8 * b.length
     ·have e2 : ¬ (p : Int) < 8 * (b.length : Int):=by omega
      rw [e1,Nat.sub_self] at x2
      simp only [zerosB] at x2
      rw [if_pos x2] at hun
      unfold pl541_0
      refine Ud (J3 w8 e2 hun) ?_
      simp [pf541,hun,y3]
     ·have e2 : (p : Int) < 8 * (b.length : Int):=by omega
      have hw1:=Wi ((p : Int) + 1)
      rw [show 8 * b.length - p = (8 * b.length - (p + 1)) + 1 by omega] at x2
      simp only [zerosB] at x2
      have hpm : p ≤ 4611686018427387904:=by omega
      have hbl:=bitN_le b p
      by_cases e3 : bitN b p = 0
      ·rw [if_pos e3] at x2
       unfold pl541_0
       refine Ud (J7 w8 e2 hw1 h hb hpm e3) ?_
       exact ⟨p + 1,by simp,⟨by omega,x2⟩,by show 8 * b.length - (p + 1) < 8 * b.length - p; omega⟩
      ·rw [if_neg e3] at x2
       rw [if_neg (by rw [x2]; simp)] at hun
       unfold pl541_0
       refine Ud (J8 w8 e2 hw1 h hb hpm e3 hun) ?_
       repeat intro hc
       simp [pf541,hun]
    ·have c2 : (i : Int) < (kn : Int):=by omega
     have hs : kn - i = (kn - (i + 1)) + 1:=by omega
     rw [hs] at y3
     simp only [unpRows] at y3
     obtain ⟨R,hR⟩ : ∃ R,R = orRow b wn (i * wn) 0 0:=⟨_,rfl⟩
     obtain ⟨P,hP⟩ : ∃ P,P = i * wn:=⟨_,rfl⟩
     have hP2 : (i : Int) * (wn : Int) = (P : Int):=by rw [hP]; simp
     have hPl : P ≤ 64 * 31:=by rw [hP]; exact Nat.mul_le_mul (by omega) (by omega)
     have hw1:=Wi ((i : Int) + 1)
     have hPw : IntKind.wrap .i64 ((i : Int) * (wn : Int)) = (P : Int):=by rw [hP2]; exact wrap_i64 (by omega) (by omega)
     rw [← hR] at y3
     rw [← hP] at hR
     have hRl : R < 2 ^ 31:=by
      have:=orRow_lt b wn P 0 0 (by simp)
      rw [← hR] at this
      exact Nat.lt_of_lt_of_le this (Nat.pow_le_pow_right (by omega) (by omega))
     unfold pl541_2
     refine Ud c2 ?_
     refine wp_loopI (σ:=Nat × Nat) (fun s => [(0,AV.v k0 (D.sl 1 (b.map eb)),none),(1,AV.v false (di (wn : Nat)),none),(2,AV.v false (di (kn : Nat)),none),(8,AV.pl 8 0 [],some (Rt.vir [C.own (D.sl 1 ((a).map ei))])),(9,AV.v false (di (i : Nat)),none),(10,AV.v false (di (s.2 : Nat)),none),(11,AV.v false (di (s.1 : Nat)),none)]) (fun s => s.1 ≤ wn ∧ s.2 < 2 ^ s.1 ∧ R = orRow b (wn - s.1) (P + s.1) s.1 s.2) (fun s => wn - s.1) (0,0) (by simp) ⟨by simp,by simp,by simpa using hR⟩ ?_
     rintro ⟨j,x⟩ ⟨x1,x2,x3⟩
     simp only at x1 x2 x3
     by_cases e1 : j = wn
     ·subst e1
      have e2 : ¬ (j : Int) < (j : Int):=by omega
      simp only [Nat.sub_self,orRow] at x3
      subst x3
      have hq : (a.length + 1) * 8 ≤ 70368744177664:=by omega
      unfold pl541_1
      refine Ud (J2 hw1 hq) ?_
      exact ⟨(a ++ [(R : Int)],i + 1),by simp,⟨by omega,by simp [y2],by rw [y3]; simp⟩,by show kn - (i + 1) < kn - i; omega⟩
     ·have e2 : (j : Int) < (wn : Int):=by omega
      rw [show wn - j = (wn - (j + 1)) + 1 by omega] at x3
      simp only [orRow] at x3
      have hcl:=t571 k0 b (P + j) h hb (by omega)
      simp only [Int.natCast_add] at hcl
      have hbl:=bitN_le b (P + j)
      generalize bitN b (P + j) = v at *
      obtain ⟨t,ht⟩ : ∃ t,t = v * 2 ^ j:=⟨_,rfl⟩
      have hj2 : (2 : Nat) ^ j ≤ 2 ^ 30:=Nat.pow_le_pow_right (by omega) (by omega)
      have htl : t ≤ 2 ^ 30:=by rw [ht]; exact Nat.le_trans (Nat.mul_le_mul hbl hj2) (by simp)
      have z1:=Wi ((P : Int) + (j : Int))
      have z2 : min j IntKind.i64.bits = j:=by simp [IntKind.bits]; omega
      have z3 : IntKind.wrap .i64 ((v : Int) * 2 ^ j) = (t : Int):=by rw [show (v : Int) * 2 ^ j = (t : Int) by rw [ht]; simp]; exact wrap_i64 (by omega) (by omega)
      rw [← ht] at x3
      have hj3 : (2 : Nat) ^ (j + 1) = 2 * 2 ^ j:=by rw [Nat.pow_succ]; omega
      have htj : t < 2 ^ (j + 1):=by
       have : t ≤ 1 * 2 ^ j:=by rw [ht]; exact Nat.mul_le_mul hbl (Nat.le_refl _)
       have:=Nat.two_pow_pos j
       omega
      have hol : x ||| t < 2 ^ (j + 1):=Nat.or_lt_two_pow (by omega) htj
      have hol2 : x ||| t < 2 ^ 31:=Nat.lt_of_lt_of_le hol (Nat.pow_le_pow_right (by omega) (by omega))
      have z4 : x % 2 ^ IntKind.i64.bits = x:=by simp only [IntKind.bits]; omega
      have z5 : t % 2 ^ IntKind.i64.bits = t:=by simp only [IntKind.bits]; omega
      have z6 : IntKind.wrap .i64 ((x ||| t : Nat) : Int) = ((x ||| t : Nat) : Int):=wrap_i64 (by omega) (by omega)
      have z7:=Wi ((j : Int) + 1)
      have z0 : ¬ (j : Int) < 0:=by omega
      unfold pl541_1
      refine Ud (J8 e2 hPw z0 z1 hcl z2 z3 (J4 z4 z5 z6 z7)) ?_
      exact ⟨(j + 1,x ||| t),by simp,⟨by omega,hol,by rw [x3]; rfl⟩,by show wn - (j + 1) < wn - j; omega⟩
   ·have hn : unpF b w k = none:=by unfold unpF; rw [if_neg (fun e => q3 e.2)]
    refine Ud (J6 q1.1 q1.2 q2.1 q2.2 q3 hn) ?_
    repeat intro hc
    simp [pf541,hn]
  ·have hn : unpF b w k = none:=by unfold unpF; rw [if_neg (fun e => q2 e.1.2)]
   refine Ud (J3 q1.1 q1.2 hn) ?_
   repeat intro hc
   simp [pf541,hn]
 ·have hn : unpF b w k = none:=by unfold unpF; rw [if_neg (fun e => q1 e.1.1)]
  refine Ud hn ?_ ?_
  all_goals repeat intro hc
  all_goals simp [pf541,hn]

def orAt (o : List Int) (q t : Nat) : List Int:=match o[q]? with
 | some c => o.set q ((c.toNat ||| t : Nat) : Int)
 | none => o
def grow (o : List Int) (n : Nat) : List Int:=if n % 8 = 0 then o ++ [0] else o
def stp (o : List Int) (n v : Nat) : List Int:=orAt (grow o n) (n / 8) (v * 2 ^ (n % 8))
def pkRow (x : Nat) : Nat → Nat → List Int → Nat → List Int
 | 0,_,o,_ => o
 | r + 1,k,o,n => pkRow x r (k + 1) (stp o n (x / 2 ^ k % 2)) (n + 1)
def pkAll (w : Nat) : List Int → List Int → Nat → List Int
 | [],o,_ => o
 | n :: l,o,p => pkAll w l (pkRow n.toNat w 0 o p) (p + w)
def packF (l : List Int) (w : Int) : List Int:=if fitB w l = true ∧ (0 ≤ w ∧ w ≤ 31) then pkAll w.toNat l [] 0 else []

theorem orAt_len (o : List Int) (q t : Nat) : (orAt o q t).length = o.length:=by unfold orAt; split <;> simp
theorem grow_len {o : List Int} {n : Nat} (h : o.length = (n + 7) / 8) : (grow o n).length = (n + 8) / 8:=by
 unfold grow; split
 ·simp; omega
 ·omega
theorem stp_len {o : List Int} {n v : Nat} (h : o.length = (n + 7) / 8) : (stp o n v).length = (n + 1 + 7) / 8:=by
 unfold stp; rw [orAt_len,grow_len h]
theorem pkRow_len (x : Nat) : ∀ (r k : Nat) (o : List Int) (n : Nat),o.length = (n + 7) / 8 → (pkRow x r k o n).length = (n + r + 7) / 8
 | 0,k,o,n,h => h
 | r + 1,k,o,n,h => by
  simp only [pkRow]
  rw [pkRow_len x r (k + 1) _ (n + 1) (stp_len h)]; congr 1; omega
theorem pkAll_len (w : Nat) : ∀ (l o : List Int) (p : Nat),o.length = (p + 7) / 8 → (pkAll w l o p).length = (p + l.length * w + 7) / 8
 | [],o,p,h => by simp [pkAll,h]
 | n :: l,o,p,h => by
  simp only [pkAll]
  rw [pkAll_len w l _ (p + w) (pkRow_len _ w 0 o p h)]; congr 1; simp [Nat.succ_mul]; omega

theorem orAt_ok {o : List Int} {q t : Nat} (h : bytesOk o) (ht : t ≤ 255) : bytesOk (orAt o q t):=by
 unfold orAt; split
 ·rename_i c hc
  intro y hy
  rcases List.mem_or_eq_of_mem_set hy with hy | rfl
  ·exact h y hy
  ·have h1:=h c (List.mem_of_getElem? hc)
   have : c.toNat ||| t < 2 ^ 8:=Nat.or_lt_two_pow (by omega) (by omega)
   omega
 ·exact h
theorem bit_le {v m : Nat} (hv : v ≤ 1) (hm : m ≤ 7) : v * 2 ^ m ≤ 128:=by
 have h1 : (2 : Nat) ^ m ≤ 2 ^ 7:=Nat.pow_le_pow_right (by omega) hm
 have h2 : v * 2 ^ m ≤ 1 * 2 ^ 7:=Nat.mul_le_mul hv h1
 omega
theorem grow_ok {o : List Int} {n : Nat} (h : bytesOk o) : bytesOk (grow o n):=by
 unfold grow; split
 ·intro y hy
  rcases List.mem_append.1 hy with hy | hy
  ·exact h y hy
  ·simp at hy; omega
 ·exact h
theorem stp_ok {o : List Int} {n v : Nat} (h : bytesOk o) (hv : v ≤ 1) : bytesOk (stp o n v) :=
 orAt_ok (grow_ok h) (Nat.le_trans (bit_le hv (by omega)) (by omega))
theorem pkRow_ok (x : Nat) : ∀ (r k : Nat) (o : List Int) (n : Nat),bytesOk o → bytesOk (pkRow x r k o n)
 | 0,k,o,n,h => h
 | r + 1,k,o,n,h => by
  simp only [pkRow]
  exact pkRow_ok x r (k + 1) _ (n + 1) (stp_ok h (by omega))
theorem pkAll_ok (w : Nat) : ∀ (l o : List Int) (p : Nat),bytesOk o → bytesOk (pkAll w l o p)
 | [],o,p,h => h
 | n :: l,o,p,h => by
  simp only [pkAll]
  exact pkAll_ok w l _ (p + w) (pkRow_ok _ w 0 o p h)
theorem bytesOk_nil : bytesOk []:=fun c hc => by simp at hc
theorem packF_ok (l : List Int) (w : Int) : bytesOk (packF l w):=by
 unfold packF; split
 ·exact pkAll_ok _ _ _ _ bytesOk_nil
 ·exact bytesOk_nil
theorem packF_len (l : List Int) (w : Int) : (packF l w).length ≤ (l.length * 31 + 7) / 8:=by
 unfold packF; split
 ·rename_i h
  rw [pkAll_len _ l [] 0 (by simp)]
  have : l.length * w.toNat ≤ l.length * 31:=Nat.mul_le_mul (Nat.le_refl _) (by omega)
  omega
 ·simp

def padL (L : Nat) (o : List Int) : List Int:=o ++ List.replicate (L - o.length) 0
theorem padL_len {L : Nat} {o : List Int} (h : o.length ≤ L) : (padL L o).length = L:=by simp [padL]; omega
theorem orAt_app {a b : List Int} {q t : Nat} (h : q < a.length) : orAt (a ++ b) q t = orAt a q t ++ b:=by
 unfold orAt
 rw [List.getElem?_append_left h,List.getElem?_eq_getElem h]
 simp only
 rw [List.set_append_left _ _ h]
theorem padL_stp {L : Nat} {o : List Int} {n v : Nat} (h : o.length = (n + 7) / 8) (hL : (n + 8) / 8 ≤ L) : padL L (stp o n v) = orAt (padL L o) (n / 8) (v * 2 ^ (n % 8)):=by
 have hg:=grow_len h
 have h1 : padL L o = padL L (grow o n):=by
  unfold grow; split
  ·simp only [padL,List.length_append,List.length_cons,List.length_nil,List.append_assoc]
   congr 1
   rw [show L - o.length = (L - (o.length + (0 + 1))) + 1 by omega,List.replicate_succ]
   rfl
  ·rfl
 rw [h1]
 unfold stp
 rw [padL,orAt_len]
 conv => rhs; rw [padL]
 rw [orAt_app (by omega)]

theorem fitB_mem {w : Int} : ∀ {l : List Int},fitB w l = true → ∀ n ∈ l,0 ≤ n ∧ n ≤ 2147483647
 | [],_,n,hn => by simp at hn
 | x :: l,h,n,hn => by
  simp only [fitB] at h
  split at h
  ·rename_i hx
   rcases List.mem_cons.1 hn with rfl | hn
   ·exact hx.1
   ·exact fitB_mem h n hn
  ·cases h

@[simp] theorem t574 (k0 : Bool) (l : List Int) (w : Int) (h : l.length ≤ 1048576) : Gw TT 574 [.one (.ro k0 (.sl 1 (l.map ei))),vi w] = some (.one (.own (.sl 1 ((packF l w).map eb))),[]):=by
 refine Ga pf574 pb574 ?_
 unfold pb574
 by_cases q1 : fitB w l = true ∧ (0 ≤ w ∧ w ≤ 31)
 ·obtain ⟨q2,q3⟩:=q1
  obtain ⟨wn,rfl⟩:=Int.eq_ofNat_of_zero_le q3.1
  have q4 : (wn : Int) ≤ 31:=q3.2
  have hpf : packF l (wn : Int) = pkAll wn l [] 0:=by simp [packF,q2,q4]
  refine Uw (J3 q2 q4 h) ?_
  refine wp_loopI (σ:=(List Int × List Int) × (List Int × Nat)) (fun s => [(0,AV.v k0 (D.sl 1 (l.map ei)),none),(1,AV.v false (di (wn : Nat)),none),(5,AV.pl 5 0 [],some (Rt.vir [C.own (D.sl 1 ((s.2.1).map eb))])),(6,AV.v false (di (s.2.2 : Nat)),none),(7,AV.v false (di (s.1.1.length : Nat)),none)]) (fun s => l = s.1.1 ++ s.1.2 ∧ s.2.2 = s.1.1.length * wn ∧ s.2.1.length = (s.2.2 + 7) / 8 ∧ bytesOk s.2.1 ∧ pkAll wn l [] 0 = pkAll wn s.1.2 s.2.1 s.2.2) (fun s => s.1.2.length) (([],l),([],0)) (by simp) ⟨rfl,by simp,by simp,bytesOk_nil,rfl⟩ ?_
  rintro ⟨⟨pre,rest⟩,⟨o,p⟩⟩ ⟨y1,y2,y3,y4,y5⟩
  simp only at y1 y2 y3 y4 y5
  have hll : l.length = pre.length + rest.length:=by rw [y1,List.length_append]
  cases rest with
  | nil =>
   have c1 : ¬ (pre.length : Int) < (l.length : Int):=by simp at hll; omega
   simp only [pkAll] at y5
   unfold pl574_1
   refine Uw c1 ?_
   simp [pf574,hpf,y5]
  | cons x rest =>
   have c1 : (pre.length : Int) < (l.length : Int):=by simp at hll; omega
   have hx:=fitB_mem q2 x (by rw [y1]; simp)
   obtain ⟨xn,rfl⟩:=Int.eq_ofNat_of_zero_le hx.1
   simp only [pkAll,Int.toNat_natCast] at y5
   have hgx : l[pre.length]? = some (xn : Int):=by rw [y1]; simp
   obtain ⟨hxl,hxe⟩:=List.getElem?_eq_some_iff.1 hgx
   have hpl : p ≤ 1048576 * 31:=by rw [y2]; exact Nat.mul_le_mul (by simp at hll; omega) (by omega)
   have hw1:=Wi ((pre.length : Int) + 1)
   obtain ⟨O,hO⟩ : ∃ O,O = pkRow xn wn 0 o p:=⟨_,rfl⟩
   have hOl : O.length = (p + wn + 7) / 8:=by rw [hO]; exact pkRow_len xn wn 0 o p y3
   have hOk : bytesOk O:=by rw [hO]; exact pkRow_ok xn wn 0 o p y4
   rw [← hO] at y5
   unfold pl574_1
   refine Uw c1 ?_
   refine wp_loopI (σ:=Nat × List Int) (fun s => [(0,AV.v k0 (D.sl 1 (l.map ei)),none),(1,AV.v false (di (wn : Nat)),none),(5,AV.pl 5 0 [],some (Rt.vir [C.own (D.sl 1 ((s.2).map eb))])),(6,AV.v false (di (p + s.1 : Nat)),none),(7,AV.v false (di (pre.length : Nat)),none),(8,AV.v false (di (s.1 : Nat)),none)]) (fun s => s.1 ≤ wn ∧ s.2.length = (p + s.1 + 7) / 8 ∧ bytesOk s.2 ∧ O = pkRow xn (wn - s.1) s.1 s.2 (p + s.1)) (fun s => wn - s.1) (0,o) (by simp) ⟨by simp,y3,y4,by simpa using hO⟩ ?_
   rintro ⟨k,s⟩ ⟨x1,x2,x3,x4⟩
   simp only at x1 x2 x3 x4
   by_cases e1 : k = wn
   ·subst e1
    simp only [Nat.sub_self,pkRow] at x4
    subst x4
    unfold pl574_0
    refine Uw hw1 ?_
    exact ⟨((pre ++ [(xn : Int)],rest),(O,p + k)),by simp,⟨by rw [y1]; simp,by simp [y2,Nat.succ_mul],hOl,hOk,y5⟩,by simp⟩
   ·have e2 : (k : Int) < (wn : Int):=by omega
    rw [show wn - k = (wn - (k + 1)) + 1 by omega] at x4
    simp only [pkRow] at x4
    have z1:=Wi ((p : Int) + (k : Int) + 1)
    have z2:=Wi ((k : Int) + 1)
    obtain ⟨n,hn⟩ : ∃ n,n = p + k:=⟨_,rfl⟩
    have hnc : (p : Int) + (k : Int) = (n : Int):=by omega
    rw [← hn] at x2 x4
    rw [hnc] at z1
    have k0' : ¬ (k : Int) < 0:=by omega
    have b1 : min k IntKind.i64.bits = k:=by simp [IntKind.bits]; omega
    obtain ⟨q,hq⟩ : ∃ q,q = xn / 2 ^ k:=⟨_,rfl⟩
    have hql : q ≤ xn:=by rw [hq]; exact Nat.div_le_self _ _
    have b2 : (xn : Int).fdiv (2 ^ k) = (q : Int):=by rw [Int.fdiv_eq_ediv_of_nonneg _ (Int.le_of_lt (Int.pow_pos (by omega))),hq]; simp
    have b3 : q % 2 ^ IntKind.i64.bits = q:=by simp only [IntKind.bits]; omega
    have b4 : 1 % 2 ^ IntKind.i64.bits = 1:=by simp [IntKind.bits]
    have b5:=Wi ((q : Int) % 2)
    obtain ⟨v,hv⟩ : ∃ v,v = q % 2:=⟨_,rfl⟩
    have b6 : (q : Int) % 2 = (v : Int):=by rw [hv]; simp
    have hvl : v ≤ 1:=by omega
    obtain ⟨m,hm⟩ : ∃ m,m = n % 8:=⟨_,rfl⟩
    have hml : m ≤ 7:=by omega
    have d1:=Wi ((n : Int) / 8)
    have d2 : (n : Int).tdiv 8 = (n : Int) / 8:=Int.tdiv_eq_ediv_of_nonneg (by omega)
    have d3 : (n : Int).tmod 8 = (m : Int):=by rw [Int.tmod_eq_emod_of_nonneg (by omega),hm]; simp
    have d5 : (n : Int) % 8 = (m : Int):=by rw [hm]; simp
    have d4 : ((n : Int) / 8).toNat = n / 8:=by omega
    have m0 : ¬ (m : Int) < 0:=by omega
    have m1 : min m IntKind.i64.bits = m:=by simp [IntKind.bits]; omega
    have m2 : min m IntKind.u8.bits = m:=by simp [IntKind.bits]; omega
    have m3 : IntKind.wrap .i64 (m : Int) = (m : Int):=wrap_i64 (by omega) (by omega)
    rw [← hq,← hv] at x4
    have hgl:=grow_len x2
    have hgo:=grow_ok (n:=n) x3
    obtain ⟨G,hG⟩ : ∃ G,G = grow s n:=⟨_,rfl⟩
    rw [← hG] at hgl hgo
    have hGn : n / 8 < G.length:=by omega
    obtain ⟨c,hgc⟩ : ∃ c,G[n / 8]? = some c:=⟨_,List.getElem?_eq_getElem hGn⟩
    have hge : G[n / 8] = c:=(List.getElem?_eq_some_iff.1 hgc).2
    have hc0:=hgo c (List.mem_of_getElem? hgc)
    obtain ⟨cn,rfl⟩:=Int.eq_ofNat_of_zero_le hc0.1
    have hst : stp s n v = G.set (n / 8) ((cn ||| v * 2 ^ m : Nat) : Int):=by
     unfold stp orAt; rw [← hG,hgc,hm]; simp
    have g1 : (0 : Int) ≤ (n : Int) / 8:=by omega
    have g2 : (n : Int) / 8 < (G.length : Int):=by omega
    have hsl : (s.length + 1) * 1 ≤ 70368744177664:=by omega
    have hsl2 : s.length + 1 ≤ 70368744177664:=by omega
    obtain ⟨t,ht⟩ : ∃ t,t = 2 ^ m:=⟨_,rfl⟩
    have htl : t ≤ 128:=by rw [ht]; exact Nat.pow_le_pow_right (by omega) hml
    have t1 : IntKind.wrap .u8 (2 ^ m) = (t : Int):=by rw [show (2 : Int) ^ m = (t : Int) by rw [ht]; simp]; exact wrap_u8 (by omega) (by omega)
    have t2 : cn % 2 ^ IntKind.u8.bits = cn:=by simp only [IntKind.bits]; omega
    have t3 : t % 2 ^ IntKind.u8.bits = t:=by simp only [IntKind.bits]; omega
    have hor : cn ||| t < 2 ^ 8:=Nat.or_lt_two_pow (by omega) (by omega)
    have t4 : IntKind.wrap .u8 ((cn ||| t : Nat) : Int) = ((cn ||| t : Nat) : Int):=wrap_u8 (by omega) (by omega)
    have hsp:=stp_len (v:=v) x2
    have hso:=stp_ok (n:=n) x3 hvl
    unfold pl574_0
    by_cases u3 : v = 1
    ·by_cases u1 : m = 0
     ·skip
      have u2 : G = s ++ [0]:=by rw [hG]; unfold grow; rw [if_pos (by omega)]
      have u4 : List.map eb s ++ [[D.int IntKind.u8 0]] = List.map eb G:=by rw [u2]; simp
      subst u3
      rw [Nat.one_mul,← ht] at hst
      have t5 : t = 1:=by simp [ht,u1]
      subst t5
      have r7 : 1 % 2 ^ IntKind.u8.bits = 1:=by simp [IntKind.bits]
      refine Uw (J8 e2 hnc z1 z2 k0' b1 b2 (J8 b3 b4 b5 b6 d1 d2 d3 (J8 d5 d4 m0 m1 m2 m3 hgx (J8 hxl hxe hGn hgc hge g1 g2 (J8 hsl hsl2 u1 u4 @t1 @t2 @t3 (J2 @t4 r7)))))) ?_
      exact ⟨(k + 1,G.set (n / 8) ((cn ||| 1 : Nat) : Int)),(by simp; try omega),⟨by omega,by rw [← hst,hsp]; first | (congr 1; omega) | rfl,by rw [← hst]; exact hso,by rw [← hst]; rw [show p + (k + 1) = n + 1 by omega]; exact x4⟩,by show wn - (k + 1) < wn - k; omega⟩
     ·skip
      have u2 : G = s:=by rw [hG]; unfold grow; rw [if_neg (by omega)]
      subst u2
      have u5 : ¬ (m : Int) = 0:=by omega
      have u4 : True:=trivial
      subst u3
      rw [Nat.one_mul,← ht] at hst
      have r7 : True:=trivial
      refine Uw (J8 e2 hnc z1 z2 k0' b1 b2 (J8 b3 b4 b5 b6 d1 d2 d3 (J8 d5 d4 m0 m1 m2 m3 hgx (J8 hxl hxe hGn hgc hge g1 g2 (J8 hsl hsl2 u1 u5 u4 @t1 @t2 (J3 @t3 @t4 r7)))))) ?_
      repeat intro hc
      exact ⟨(k + 1,G.set (n / 8) ((cn ||| t : Nat) : Int)),(by simp; try omega),⟨by omega,by rw [← hst,hsp]; first | (congr 1; omega) | rfl,by rw [← hst]; exact hso,by rw [← hst]; rw [show p + (k + 1) = n + 1 by omega]; exact x4⟩,by show wn - (k + 1) < wn - k; omega⟩
    ·by_cases u1 : m = 0
     ·skip
      have u2 : G = s ++ [0]:=by rw [hG]; unfold grow; rw [if_pos (by omega)]
      have u4 : List.map eb s ++ [[D.int IntKind.u8 0]] = List.map eb G:=by rw [u2]; simp
      have u6 : v = 0:=by omega
      subst u6
      have hst0 : stp s n 0 = G:=by rw [hst]; simp only [Nat.zero_mul,Nat.or_zero]; rw [← hge]; first | done | simp
      refine Uw (J8 e2 hnc z1 z2 k0' b1 b2 (J8 b3 b4 b5 b6 d1 d2 d3 (J8 d5 d4 m0 m1 m2 m3 hgx (J8 hxl hxe hGn hgc hge g1 g2 (J4 hsl hsl2 u1 u4))))) ?_
      exact ⟨(k + 1,G),(by simp; try omega),⟨by omega,by rw [← hst0,hsp]; first | (congr 1; omega) | rfl,by rw [← hst0]; exact hso,by rw [← hst0]; rw [show p + (k + 1) = n + 1 by omega]; exact x4⟩,by show wn - (k + 1) < wn - k; omega⟩
     ·skip
      have u2 : G = s:=by rw [hG]; unfold grow; rw [if_neg (by omega)]
      subst u2
      have u5 : ¬ (m : Int) = 0:=by omega
      have u4 : True:=trivial
      have u6 : v = 0:=by omega
      subst u6
      have hst0 : stp G n 0 = G:=by rw [hst]; simp only [Nat.zero_mul,Nat.or_zero]; rw [← hge]; first | done | simp
      refine Uw (J8 e2 hnc z1 z2 k0' b1 b2 (J8 b3 b4 b5 b6 d1 d2 d3 (J8 d5 d4 m0 m1 m2 m3 hgx (J8 hxl hxe hGn hgc hge g1 g2 (J5 hsl hsl2 u1 u5 u4))))) ?_
      repeat intro hc
      exact ⟨(k + 1,G),(by simp; try omega),⟨by omega,by rw [← hst0,hsp]; first | (congr 1; omega) | rfl,by rw [← hst0]; exact hso,by rw [← hst0]; rw [show p + (k + 1) = n + 1 by omega]; exact x4⟩,by show wn - (k + 1) < wn - k; omega⟩
 ·have hpf : packF l w = []:=by unfold packF; rw [if_neg q1]
  have q5 : (fitB w l && (decide (0 ≤ w) && decide (w ≤ 31))) = false:=by
   cases hf : fitB w l with
   | false => rfl
   | true => simp; intro h0; have : ¬ (0 ≤ w ∧ w ≤ 31):=fun e => q1 ⟨hf,e⟩; omega
  refine Uw (J2 q5 h) ?_
  simp [pf574,hpf]

@[simp] theorem t586 (k0 : Bool) (l : List Int) (w : Int) (h : l.length ≤ 1048576) : Gw TT 586 [.one (.ro k0 (.sl 1 (l.map ei))),vi w] = some (.one (.own (.sl 1 ((packF l w).map eb))),[]):=by
 refine Ga pf586 pb586 ?_
 unfold pb586
 by_cases q3 : 0 ≤ w ∧ w ≤ 31
 ·obtain ⟨wn,rfl⟩:=Int.eq_ofNat_of_zero_le q3.1
  have q4 : (wn : Int) ≤ 31:=q3.2
  refine Ud (J2 q4 h) ?_
  refine wp_loopI (σ:=List Int × List Int) (fun s => [(0,AV.v k0 (D.sl 1 (l.map ei)),none),(1,AV.v false (di (wn : Nat)),none),(15,AV.v k0 (D.sl 1 (l.map ei)),none),(16,AV.v false (di (l.length : Nat)),none),(17,AV.v false (di (s.1.length : Nat)),none)]) (fun s => l = s.1 ++ s.2 ∧ fitB wn l = fitB wn s.2) (fun s => s.2.length) ([],l) (by simp) ⟨rfl,rfl⟩ ?_
  rintro ⟨pre,rest⟩ ⟨y1,y2⟩
  simp only at y1 y2
  have hll : l.length = pre.length + rest.length:=by rw [y1,List.length_append]
  cases rest with
  | cons x rest =>
   have c1 : (pre.length : Int) < (l.length : Int):=by simp at hll; omega
   have hgx : l[pre.length]? = some x:=by rw [y1]; simp
   obtain ⟨hxl,hxe⟩:=List.getElem?_eq_some_iff.1 hgx
   have hw1:=Wi ((pre.length : Int) + 1)
   by_cases g1 : 0 ≤ x ∧ x ≤ 2147483647
   ·by_cases g2 : widI x ≤ (wn : Int)
    ·have g3 : ¬ (wn : Int) < widI x:=by omega
     simp only [fitB] at y2
     rw [if_pos ⟨g1,g2⟩] at y2
     unfold pl586_2
     refine Ud (J8 c1 hgx hxl hxe hw1 g1.1 g1.2 (J2 g2 g3)) ?_
     exact ⟨(pre ++ [x],rest),by simp,⟨by rw [y1]; simp,by simp only [fitB]; exact y2⟩,by simp⟩
    ·have g3 : (wn : Int) < widI x:=by omega
     simp only [fitB] at y2
     rw [if_neg (fun e => g2 e.2)] at y2
     have hpf : packF l (wn : Int) = []:=by unfold packF; rw [if_neg (fun e => by have:=e.1; rw [show fitB (wn : Int) l = false from y2] at this; cases this)]
     unfold pl586_2
     refine Ud (J8 c1 hgx hxl hxe hw1 g1.1 g1.2 (J2 g3 hpf)) ?_
     simp [pf586,hpf]
   ·simp only [fitB] at y2
    rw [if_neg (fun e => g1 e.1)] at y2
    have hpf : packF l (wn : Int) = []:=by unfold packF; rw [if_neg (fun e => by have:=e.1; rw [show fitB (wn : Int) l = false from y2] at this; cases this)]
    unfold pl586_2
    refine Ud (J6 c1 hgx hxl hxe hw1 hpf) ?_
    repeat intro hc
    simp [pf586,hpf]
  | nil =>
   have q2 : fitB (wn : Int) l = true:=y2
   have c1 : ¬ (pre.length : Int) < (l.length : Int):=by simp at hll; omega
   have hpf : packF l (wn : Int) = pkAll wn l [] 0:=by simp [packF,q2,q4]
   obtain ⟨T,hT⟩ : ∃ T,T = l.length * wn:=⟨_,rfl⟩
   have hT2 : (l.length : Int) * (wn : Int) = (T : Int):=by rw [hT]; simp
   have hTl : T ≤ 1048576 * 31:=by rw [hT]; exact Nat.mul_le_mul (by omega) (by omega)
   obtain ⟨L,hL⟩ : ∃ L,L = (T + 7) / 8:=⟨_,rfl⟩
   have v1 : IntKind.wrap .i64 ((l.length : Int) * (wn : Int)) = (T : Int):=by rw [hT2]; exact wrap_i64 (by omega) (by omega)
   have v2:=Wi ((T : Int) + 7)
   have v3 : ((T : Int) + 7).tdiv 8 = (L : Int):=by rw [Int.tdiv_eq_ediv_of_nonneg (by omega)]; omega
   have v4 : IntKind.wrap .i64 (L : Int) = (L : Int):=wrap_i64 (by omega) (by omega)
   have v5 : L * 1 ≤ 140737488355328:=by omega
   have v6 : L ≤ 140737488355328:=by omega
   have hp0 : padL L [] = List.replicate L 0:=by simp [padL]
   clear y1 hll y2
   unfold pl586_2
   refine Ud (J7 c1 v1 v2 v3 v4 v5 v6) ?_
   refine wp_loopI (σ:=(List Int × List Int) × (List Int × Nat)) (fun s => [(1,AV.v false (di (wn : Nat)),none),(7,AV.pl 7 0 [],some (Rt.vir [C.own (D.sl 1 ((padL L s.2.1).map eb))])),(38,AV.v k0 (D.sl 1 (l.map ei)),none),(39,AV.v false (di (l.length : Nat)),none),(40,AV.v false (di (s.1.1.length : Nat)),none)]) (fun s => l = s.1.1 ++ s.1.2 ∧ s.2.2 = s.1.1.length * wn ∧ s.2.1.length = (s.2.2 + 7) / 8 ∧ bytesOk s.2.1 ∧ pkAll wn l [] 0 = pkAll wn s.1.2 s.2.1 s.2.2) (fun s => s.1.2.length) (([],l),([],0)) (by simp [hp0]) ⟨rfl,by simp,by simp,bytesOk_nil,rfl⟩ ?_
   clear c1
   rintro ⟨⟨pre,rest⟩,⟨o,p⟩⟩ ⟨y1,y2,y3,y4,y5⟩
   simp only at y1 y2 y3 y4 y5
   have hll : l.length = pre.length + rest.length:=by rw [y1,List.length_append]
   cases rest with
   | nil =>
    have c1 : ¬ (pre.length : Int) < (l.length : Int):=by simp at hll; omega
    simp only [pkAll] at y5
    have hpo : padL L o = o:=by
     have : o.length = L:=by rw [y3,y2,hL,hT]; simp at hll; rw [hll]
     simp [padL,this]
    unfold pl586_1
    refine Ud (J2 c1 hpo) ?_
    simp [pf586,hpf,y5,hpo]
   | cons x rest =>
    have c1 : (pre.length : Int) < (l.length : Int):=by simp at hll; omega
    have hx:=fitB_mem q2 x (by rw [y1]; simp)
    obtain ⟨xn,rfl⟩:=Int.eq_ofNat_of_zero_le hx.1
    simp only [pkAll,Int.toNat_natCast] at y5
    have hgx : l[pre.length]? = some (xn : Int):=by rw [y1]; simp
    obtain ⟨hxl,hxe⟩:=List.getElem?_eq_some_iff.1 hgx
    have hpl : p ≤ 1048576 * 31:=by rw [y2]; exact Nat.mul_le_mul (by simp at hll; omega) (by omega)
    have hpw : p + wn ≤ T:=by
     have : (pre.length + 1) * wn ≤ l.length * wn:=Nat.mul_le_mul (by simp at hll; omega) (Nat.le_refl _)
     rw [Nat.succ_mul] at this; omega
    have hpm : (pre.length : Int) * (wn : Int) = (p : Int):=by rw [y2]; simp
    have v7 : IntKind.wrap .i64 ((pre.length : Int) * (wn : Int)) = (p : Int):=by rw [hpm]; exact wrap_i64 (by omega) (by omega)
    have hw1:=Wi ((pre.length : Int) + 1)
    obtain ⟨O,hO⟩ : ∃ O,O = pkRow xn wn 0 o p:=⟨_,rfl⟩
    have hOl : O.length = (p + wn + 7) / 8:=by rw [hO]; exact pkRow_len xn wn 0 o p y3
    have hOk : bytesOk O:=by rw [hO]; exact pkRow_ok xn wn 0 o p y4
    rw [← hO] at y5
    unfold pl586_1
    refine Ud (J4 c1 hgx hxl hxe) ?_
    refine wp_loopI (σ:=Nat × List Int) (fun s => [(1,AV.v false (di (wn : Nat)),none),(7,AV.pl 7 0 [],some (Rt.vir [C.own (D.sl 1 ((padL L s.2).map eb))])),(8,AV.v false (di (pre.length : Nat)),none),(9,AV.v false (di (xn : Nat)),none),(10,AV.v false (di (s.1 : Nat)),none),(38,AV.v k0 (D.sl 1 (l.map ei)),none),(39,AV.v false (di (l.length : Nat)),none),(40,AV.v false (di (pre.length : Nat)),none)]) (fun s => s.1 ≤ wn ∧ s.2.length = (p + s.1 + 7) / 8 ∧ bytesOk s.2 ∧ O = pkRow xn (wn - s.1) s.1 s.2 (p + s.1)) (fun s => wn - s.1) (0,o) (by simp) ⟨by simp,y3,y4,by simpa using hO⟩ ?_
    rintro ⟨k,s⟩ ⟨x1,x2,x3,x4⟩
    simp only at x1 x2 x3 x4
    by_cases e1 : k = wn
    ·subst e1
     simp only [Nat.sub_self,pkRow] at x4
     subst x4
     unfold pl586_0
     refine Ud hw1 ?_
     exact ⟨((pre ++ [(xn : Int)],rest),(O,p + k)),by simp,⟨by rw [y1]; simp,by simp [y2,Nat.succ_mul],hOl,hOk,y5⟩,by simp⟩
    ·have e2 : (k : Int) < (wn : Int):=by omega
     rw [show wn - k = (wn - (k + 1)) + 1 by omega] at x4
     simp only [pkRow] at x4
     have z2:=Wi ((k : Int) + 1)
     obtain ⟨n,hn⟩ : ∃ n,n = p + k:=⟨_,rfl⟩
     have hnc : (p : Int) + (k : Int) = (n : Int):=by omega
     have z1 : IntKind.wrap .i64 ((p : Int) + (k : Int)) = (n : Int):=by rw [hnc]; exact wrap_i64 (by omega) (by omega)
     rw [← hn] at x2 x4
     have k0' : ¬ (k : Int) < 0:=by omega
     have b1 : min k IntKind.i64.bits = k:=by simp [IntKind.bits]; omega
     obtain ⟨q,hq⟩ : ∃ q,q = xn / 2 ^ k:=⟨_,rfl⟩
     have hql : q ≤ xn:=by rw [hq]; exact Nat.div_le_self _ _
     have b2 : (xn : Int).fdiv (2 ^ k) = (q : Int):=by rw [Int.fdiv_eq_ediv_of_nonneg _ (Int.le_of_lt (Int.pow_pos (by omega))),hq]; simp
     have b3 : q % 2 ^ IntKind.i64.bits = q:=by simp only [IntKind.bits]; omega
     have b4 : 1 % 2 ^ IntKind.i64.bits = 1:=by simp [IntKind.bits]
     have b5:=Wi ((q : Int) % 2)
     obtain ⟨v,hv⟩ : ∃ v,v = q % 2:=⟨_,rfl⟩
     have b6 : (q : Int) % 2 = (v : Int):=by rw [hv]; simp
     have hvl : v ≤ 1:=by omega
     obtain ⟨m,hm⟩ : ∃ m,m = n % 8:=⟨_,rfl⟩
     have hml : m ≤ 7:=by omega
     have d1:=Wi ((n : Int) / 8)
     have d2 : (n : Int).tdiv 8 = (n : Int) / 8:=Int.tdiv_eq_ediv_of_nonneg (by omega)
     have d3 : (n : Int).tmod 8 = (m : Int):=by rw [Int.tmod_eq_emod_of_nonneg (by omega),hm]; simp
     have d5 : (n : Int) % 8 = (m : Int):=by rw [hm]; simp
     have d4 : ((n : Int) / 8).toNat = n / 8:=by omega
     have m0 : ¬ (m : Int) < 0:=by omega
     have m1 : min m IntKind.i64.bits = m:=by simp [IntKind.bits]; omega
     have m2 : min m IntKind.u8.bits = m:=by simp [IntKind.bits]; omega
     have m3 : IntKind.wrap .i64 (m : Int) = (m : Int):=wrap_i64 (by omega) (by omega)
     rw [← hq,← hv] at x4
     have hsp:=stp_len (v:=v) x2
     have hso:=stp_ok (n:=n) x3 hvl
     have hps:=padL_stp (L:=L) (v:=v) x2 (by omega)
     have hGl:=padL_len (L:=L) (o:=s) (by omega)
     have hGk : bytesOk (padL L s):=by
      intro y hy
      simp only [padL,List.mem_append,List.mem_replicate] at hy
      rcases hy with hy | hy
      ·exact x3 y hy
      ·omega
     obtain ⟨G,hG⟩ : ∃ G,G = padL L s:=⟨_,rfl⟩
     rw [← hG] at hGl hGk hps
     have hGn : n / 8 < G.length:=by omega
     obtain ⟨c,hgc⟩ : ∃ c,G[n / 8]? = some c:=⟨_,List.getElem?_eq_getElem hGn⟩
     have hge : G[n / 8] = c:=(List.getElem?_eq_some_iff.1 hgc).2
     have hc0:=hGk c (List.mem_of_getElem? hgc)
     obtain ⟨cn,rfl⟩:=Int.eq_ofNat_of_zero_le hc0.1
     obtain ⟨t,ht⟩ : ∃ t,t = v * 2 ^ m:=⟨_,rfl⟩
     have htl : t ≤ 128:=by rw [ht]; exact bit_le hvl hml
     have hst : padL L (stp s n v) = G.set (n / 8) ((cn ||| t : Nat) : Int):=by
      rw [hps]; unfold orAt; rw [hgc,← hm,ht]; simp
     have g1 : (0 : Int) ≤ (n : Int) / 8:=by omega
     have g2 : (n : Int) / 8 < (G.length : Int):=by omega
     have t0 : (v : Int) * 2 ^ m = (t : Int):=by rw [ht]; simp
     have t1 : IntKind.wrap .i64 ((v : Int) * 2 ^ m) = (t : Int):=by rw [t0]; exact wrap_i64 (by omega) (by omega)
     have t5 : IntKind.wrap .u8 (t : Int) = (t : Int):=wrap_u8 (by omega) (by omega)
     have t6 : IntKind.wrap .i64 (v : Int) = (v : Int):=wrap_i64 (by omega) (by omega)
     have t7 : (t : Int) % 2 ^ IntKind.u8.bits = (t : Int):=by simp only [IntKind.bits]; omega
     have t2 : cn % 2 ^ IntKind.u8.bits = cn:=by simp only [IntKind.bits]; omega
     have t3 : t % 2 ^ IntKind.u8.bits = t:=by simp only [IntKind.bits]; omega
     have hor : cn ||| t < 2 ^ 8:=Nat.or_lt_two_pow (by omega) (by omega)
     have t4 : IntKind.wrap .u8 ((cn ||| t : Nat) : Int) = ((cn ||| t : Nat) : Int):=wrap_u8 (by omega) (by omega)
     have hst2 : List.map eb (padL L (stp s n v)) = (List.map eb G).set (n / 8) [D.int IntKind.u8 ((cn ||| t : Nat) : Int)]:=by rw [hst]; simp
     clear hst hps
     rw [← hG]
     unfold pl586_0
     refine Ud (J8 e2 v7 z1 z2 k0' b1 b2 (J8 b3 b4 b5 b6 d1 d2 d3 (J8 d5 d4 m0 m1 m2 m3 hGn (J8 hgc hge g1 g2 @t1 @t5 @t6 (J4 @t7 @t2 @t3 @t4))))) ?_
     exact ⟨(k + 1,stp s n v),by simp [hst2],⟨by omega,by rw [hsp]; first | (congr 1; omega) | rfl,hso,by rw [show p + (k + 1) = n + 1 by omega]; exact x4⟩,by show wn - (k + 1) < wn - k; omega⟩
 ·have hpf : packF l w = []:=by unfold packF; rw [if_neg (fun e => q3 e.2)]
  refine Ud hpf ?_
  repeat intro hc
  simp [pf586,hpf]

def bsI (s : ByteArray) : List Int:=s.toList.map fun b => (b.toNat : Int)

theorem ba_data (s : ByteArray) : s.toList = s.data.toList:=ByteArray.toList_eq s

theorem bsI_ok (s : ByteArray) : bytesOk (bsI s):=by
 intro c hc
 simp only [bsI,List.mem_map] at hc
 obtain ⟨b,_,rfl⟩:=hc
 have:=b.toNat_lt
 omega

theorem bsI_len (s : ByteArray) : (bsI s).length = s.size:=by simp [bsI,bl_len]

theorem bsI_strOf {l : List Int} (h : bytesOk l) : bsI (strOf l) = l:=by
 simp only [bsI,strOf,ba_data,List.map_map]
 conv => rhs; rw [← List.map_id l]
 apply List.map_congr_left
 intro c hc
 have:=h c hc
 simp
 omega

theorem ba_inj {s t : ByteArray} (h : s.toList = t.toList) : s = t:=by
 apply ByteArray.ext
 apply Array.toList_inj.1
 rw [← ba_data,← ba_data]; exact h

theorem strOf_inj {l m : List Int} (hl : bytesOk l) (hm : bytesOk m) (h : strOf l = strOf m) : l = m:=by
 rw [← bsI_strOf hl,← bsI_strOf hm,h]

theorem strEq {l m : List Int} (hl : bytesOk l) (hm : bytesOk m) : ((strOf l).toList == (strOf m).toList) = decide (l = m):=by
 by_cases h : l = m
 ·subst h; simp
 ·rw [decide_eq_false h]
  apply Bool.eq_false_iff.2
  intro e
  have:=ba_inj (eq_of_beq e)
  exact h (strOf_inj hl hm this)

theorem valEq_iff {a b : XVal} : valEq a b = true ↔ a = b:=by
 obtain ⟨t,n,s⟩:=a
 obtain ⟨t',n',s'⟩:=b
 simp only [valEq,Bool.and_eq_true,beq_iff_eq,XVal.mk.injEq]
 constructor
 ·rintro ⟨h1,h2,h3⟩; exact ⟨h1,h2,ba_inj h3⟩
 ·rintro ⟨h1,h2,h3⟩; exact ⟨h1,h2,by rw [h3]⟩

theorem bytesOk_append {a b : List Int} (ha : bytesOk a) (hb : bytesOk b) : bytesOk (a ++ b):=by
 intro c hc
 rcases List.mem_append.1 hc with h | h
 ·exact ha c h
 ·exact hb c h
theorem bytesOk_drop {b : List Int} (n : Nat) (h : bytesOk b) : bytesOk (b.drop n):=fun c hc => h c (List.mem_of_mem_drop hc)
theorem bytesOk_take {b : List Int} (n : Nat) (h : bytesOk b) : bytesOk (b.take n):=fun c hc => h c (List.mem_of_mem_take hc)
theorem bytesOk_cons {a : Int} {b : List Int} (ha : 0 ≤ a ∧ a ≤ 255) (hb : bytesOk b) : bytesOk (a :: b):=by
 intro c hc
 rcases List.mem_cons.1 hc with rfl | h
 ·exact ha
 ·exact hb c h
theorem bytesOk_flat {α : Type} {f : α → List Int} (h : ∀ x,bytesOk (f x)) (l : List α) : bytesOk (l.flatMap f):=by
 intro c hc
 obtain ⟨x,_,hx⟩:=List.mem_flatMap.1 hc
 exact h x c hx

theorem valOkF_ty {ty n : Int} {s : ByteArray} (h : valOkF ty n s = true) : ty = 1 ∨ ty = 2:=by
 unfold valOkF at h
 split at h
 ·left; assumption
 ·simp only [Bool.and_eq_true,decide_eq_true_eq] at h; exact .inr h.1

theorem valOkF_len {ty n : Int} {s : ByteArray} (h : valOkF ty n s = true) : s.size ≤ 6:=by
 unfold valOkF at h
 split at h
 ·simp only [Bool.and_eq_true,beq_iff_eq] at h
  have:=ba_inj h.2
  rw [this]; decide
 ·simp only [Bool.and_eq_true,decide_eq_true_eq] at h; exact h.2.2.1

theorem valOkF_int {n : Int} (h : -1000000000 ≤ n ∧ n ≤ 1000000000) : valOkF 1 n ⟨#[]⟩ = true:=by
 simp [valOkF,numB,h]

theorem valOkF_one {n : Int} {s : ByteArray} (h : valOkF 1 n s = true) : (-1000000000 ≤ n ∧ n ≤ 1000000000) ∧ s = ⟨#[]⟩:=by
 simp only [valOkF,if_true,numB,Bool.and_eq_true,decide_eq_true_eq,beq_iff_eq] at h
 exact ⟨h.1,ba_inj h.2⟩

/-- A value's bytes. -/
def putV (v : XVal) : List Int:=if valOkF v.Ty v.N v.S = true then (if v.Ty = 1 then encN v.N else (v.S.size : Int) :: bsI v.S) else []
def encVs (l : List XVal) : List Int:=l.flatMap putV

theorem putV_ok (v : XVal) : bytesOk (putV v):=by
 unfold putV
 split
 ·rename_i h
  have:=valOkF_len h
  split
  ·exact encN_ok _
  ·exact bytesOk_cons (by omega) (bsI_ok _)
 ·exact bytesOk_nil
theorem putV_len (v : XVal) : (putV v).length ≤ 7:=by
 unfold putV
 split
 ·rename_i h
  have:=valOkF_len h
  split
  ·have:=encN_len v.N; omega
  ·simp [bsI_len]; omega
 ·simp
theorem encVs_ok (l : List XVal) : bytesOk (encVs l):=bytesOk_flat putV_ok l
theorem encVs_len : ∀ l : List XVal,(encVs l).length ≤ 7 * l.length
 | [] => by simp [encVs]
 | v :: l => by
  have h1:=putV_len v
  have h2:=encVs_len l
  simp only [encVs] at h2
  simp only [encVs,List.flatMap_cons,List.length_append,List.length_cons]
  omega

def typA (t : Int) : List XVal → Bool
 | [] => true
 | v :: l => if valOkF v.Ty v.N v.S = true ∧ v.Ty = t then typA t l else false
def typF : List XVal → Int
 | [] => 0
 | v :: r => if r.length < 64 ∧ typA v.Ty (v :: r) = true then v.Ty else 0

theorem typA_mem {t : Int} : ∀ {l : List XVal},typA t l = true → ∀ v ∈ l,valOkF v.Ty v.N v.S = true ∧ v.Ty = t
 | [],_,v,hv => by simp at hv
 | x :: l,h,v,hv => by
  simp only [typA] at h
  split at h
  ·rename_i hx
   rcases List.mem_cons.1 hv with rfl | hv
   ·exact hx
   ·exact typA_mem h v hv
  ·cases h
theorem typA_of {t : Int} : ∀ {l : List XVal},(∀ v ∈ l,valOkF v.Ty v.N v.S = true ∧ v.Ty = t) → typA t l = true
 | [],_ => rfl
 | x :: l,h => by
  simp only [typA]
  rw [if_pos (h x (by simp))]
  exact typA_of fun v hv => h v (by simp [hv])
theorem typA_append {t : Int} {a b : List XVal} (ha : typA t a = true) (hb : typA t b = true) : typA t (a ++ b) = true :=
 typA_of fun v hv => by
  rcases List.mem_append.1 hv with h | h
  ·exact typA_mem ha v h
  ·exact typA_mem hb v h

theorem typF_of {l : List XVal} {t : Int} (h0 : 0 < l.length) (h : l.length ≤ 64) (ha : typA t l = true) : typF l = t:=by
 cases l with
 | nil => simp at h0
 | cons v r =>
  have hv:=typA_mem ha v (by simp)
  simp only [typF]
  rw [hv.2,if_pos ⟨by simp at h; omega,ha⟩]
theorem typF_ne {l : List XVal} (h : typF l ≠ 0) : 1 ≤ l.length ∧ l.length ≤ 64 ∧ typA (typF l) l = true ∧ (typF l = 1 ∨ typF l = 2):=by
 cases l with
 | nil => simp [typF] at h
 | cons v r =>
  simp only [typF] at h ⊢
  split at h
  ·rename_i hh
   rw [if_pos hh]
   exact ⟨by simp,by simp; omega,hh.2,valOkF_ty (typA_mem hh.2 v (by simp)).1⟩
  ·exact absurd rfl h

/-- The plain encoding. -/
def encP (l : List XVal) : List Int:=if typF l = 0 then [] else encVs l
theorem encP_ok (l : List XVal) : bytesOk (encP l):=by unfold encP; split; exact bytesOk_nil; exact encVs_ok l
theorem encP_len (l : List XVal) : (encP l).length ≤ 448:=by
 unfold encP; split
 ·simp
 ·rename_i h
  have:=(typF_ne h).2.1
  have:=encVs_len l
  omega

theorem gN_can {b : List Int} {u n t : Int} (hb : bytesOk b) (h : gN b u = some (n,t)) :
  (-1000000000 ≤ n ∧ n ≤ 1000000000) ∧ 0 ≤ u ∧ u < t ∧ t ≤ (b.length : Int) ∧ b.drop u.toNat = encN n ++ b.drop t.toNat:=by
 unfold gN at h
 split at h
 ·rename_i hu
  split at h
  ·rename_i n' k hg
   simp only [Option.some.injEq,Prod.mk.injEq] at h
   obtain ⟨rfl,rfl⟩:=h
   obtain ⟨h1,r,h2,h3⟩:=getN_can (bytesOk_drop _ hb) hg
   have hl:=congrArg List.length h2
   simp only [List.length_drop,List.length_append] at hl
   have hp : 1 ≤ (encN n').length:=by
    unfold encN; rw [if_pos h1]; exact vbN_pos _
   refine ⟨h1,hu.1,by omega,by omega,?_⟩
   have e : (u + (k : Int)).toNat = u.toNat + k:=by omega
   rw [e,← List.drop_drop,h2,← h3]
   simp
  ·cases h
 ·cases h

theorem gN_enc {n : Int} (h : -1000000000 ≤ n ∧ n ≤ 1000000000) (r : List Int) : gN (encN n ++ r) 0 = some (n,((encN n).length : Int)):=by
 have hp : 1 ≤ (encN n).length:=by
  unfold encN; rw [if_pos h]; exact vbN_pos _
 unfold gN
 rw [if_pos ⟨by omega,by simp only [List.length_append]; omega⟩]
 simp only [Int.toNat_zero,List.drop_zero]
 rw [getN_enc h r]
 simp

/-- A value read. -/
def getV (b : List Int) (u ty : Int) : Option (XVal × Int) :=
 if ty = 1 then (match gN b u with
  | some (n,t) => some (⟨1,n,⟨#[]⟩⟩,t)
  | none => none)
 else if ty = 2 ∧ 0 ≤ u then (match b[u.toNat]? with
  | some k => if u + 1 + k ≤ (b.length : Int) then
    (if valOkF 2 0 (strOf ((b.take (u + 1 + k).toNat).drop (u + 1).toNat)) = true then some (⟨2,0,strOf ((b.take (u + 1 + k).toNat).drop (u + 1).toNat)⟩,u + 1 + k) else none)
   else none
  | none => none)
 else none

theorem getV_can {b : List Int} {u ty t : Int} {v : XVal} (hb : bytesOk b) (h : getV b u ty = some (v,t)) :
  (valOkF v.Ty v.N v.S = true ∧ v.Ty = ty) ∧ 0 ≤ u ∧ u < t ∧ t ≤ (b.length : Int) ∧ b.drop u.toNat = putV v ++ b.drop t.toNat:=by
 unfold getV at h
 split at h
 ·rename_i hty
  subst hty
  split at h
  ·rename_i n t' hg
   simp only [Option.some.injEq,Prod.mk.injEq] at h
   obtain ⟨rfl,rfl⟩:=h
   obtain ⟨h1,h2,h3,h4,h5⟩:=gN_can hb hg
   refine ⟨⟨valOkF_int h1,rfl⟩,h2,h3,h4,?_⟩
   simp only [putV]
   rw [if_pos (valOkF_int h1)]
   simpa using h5
  ·cases h
 ·split at h
  ·rename_i hty
   obtain ⟨rfl,hu⟩:=hty
   split at h
   ·rename_i k hk
    split at h
    ·rename_i hl
     split at h
     ·rename_i hv
      simp only [Option.some.injEq,Prod.mk.injEq] at h
      obtain ⟨rfl,rfl⟩:=h
      have hk0:=hb k (List.mem_of_getElem? hk)
      obtain ⟨kn,rfl⟩:=Int.eq_ofNat_of_zero_le hk0.1
      obtain ⟨un,rfl⟩:=Int.eq_ofNat_of_zero_le hu
      have e1 : ((un : Int) + 1 + (kn : Int)).toNat = un + 1 + kn:=by omega
      have e2 : ((un : Int) + 1).toNat = un + 1:=by omega
      have e3 : ((un : Int)).toNat = un:=by omega
      rw [e1,e2] at hv
      rw [e3] at hk
      refine ⟨⟨by rw [e1,e2]; exact hv,rfl⟩,by omega,by omega,by omega,?_⟩
      simp only [putV]
      rw [e1,e2,e3,if_pos hv,if_neg (by omega)]
      have hlt:=(List.getElem?_eq_some_iff.1 hk).1
      have hbs : bytesOk ((b.take (un + 1 + kn)).drop (un + 1)):=bytesOk_drop _ (bytesOk_take _ hb)
      have hsz : (strOf ((b.take (un + 1 + kn)).drop (un + 1))).size = kn:=by
       rw [← bsI_len,bsI_strOf hbs]
       simp only [List.length_drop,List.length_take]; omega
      rw [bsI_strOf hbs,hsz,List.drop_eq_getElem_cons hlt,(List.getElem?_eq_some_iff.1 hk).2]
      simp only [List.cons_append,List.cons.injEq,true_and]
      have e4 : b.drop (un + 1) = (b.drop (un + 1)).take kn ++ (b.drop (un + 1)).drop kn:=(List.take_append_drop _ _).symm
      rw [e4,List.drop_drop,List.take_drop]
     ·cases h
    ·cases h
   ·cases h
  ·cases h

def getVs (b : List Int) (ty : Int) : Nat → Int → Option (List XVal × Int)
 | 0,u => some ([],u)
 | k + 1,u => match getV b u ty with
  | some (v,t) => match getVs b ty k t with
   | some (l,t2) => some (v :: l,t2)
   | none => none
  | none => none

theorem getVs_can {b : List Int} {ty : Int} (hb : bytesOk b) : ∀ {k : Nat} {u t : Int} {l : List XVal},0 ≤ u → u ≤ (b.length : Int) → getVs b ty k u = some (l,t) →
  l.length = k ∧ typA ty l = true ∧ u ≤ t ∧ t ≤ (b.length : Int) ∧ b.drop u.toNat = encVs l ++ b.drop t.toNat
 | 0,u,t,l,h0,h1,h => by
  simp only [getVs,Option.some.injEq,Prod.mk.injEq] at h
  obtain ⟨rfl,rfl⟩:=h
  exact ⟨rfl,rfl,by omega,h1,by simp [encVs]⟩
 | k + 1,u,t,l,h0,h1,h => by
  simp only [getVs] at h
  split at h
  ·rename_i v t1 hv
   split at h
   ·rename_i l' t2 hl
    simp only [Option.some.injEq,Prod.mk.injEq] at h
    obtain ⟨rfl,rfl⟩:=h
    obtain ⟨a1,a2,a3,a4,a5⟩:=getV_can hb hv
    obtain ⟨b1,b2,b3,b4,b5⟩:=getVs_can hb (by omega) a4 hl
    refine ⟨by simp [b1],by simp only [typA]; rw [if_pos a1]; exact b2,by omega,b4,?_⟩
    rw [a5,b5]
    simp [encVs]
   ·cases h
  ·cases h

theorem getVs_some {b : List Int} {ty : Int} {a : List XVal} {k : Nat} {u t : Int} {v : XVal} (h : getV b u ty = some (v,t)) : preL a (getVs b ty (k + 1) u) = preL (a ++ [v]) (getVs b ty k t):=by
 simp only [getVs,h]
 cases getVs b ty k t with
 | none => rfl
 | some x => simp [preL]
theorem getVs_none {b : List Int} {ty : Int} {a : List XVal} {k : Nat} {u : Int} (h : getV b u ty = none) : preL a (getVs b ty (k + 1) u) = none:=by
 simp only [getVs,h]; rfl

/-- The plain decoding. -/
def decP (b : List Int) (ty k : Int) : Option (List XVal):=if 1 ≤ k ∧ k ≤ 64 then (match getVs b ty k.toNat 0 with
 | some (l,t) => if t = (b.length : Int) then some l else none
 | none => none) else none

theorem decP_enc {b : List Int} {ty k : Int} (hb : bytesOk b) {l : List XVal} {t : Int} (hk : 1 ≤ k ∧ k ≤ 64) (h : getVs b ty k.toNat 0 = some (l,t)) :
  ((l.length : Int) = k) ∧ typF l = ty ∧ (b = encP l ↔ t = (b.length : Int)):=by
 obtain ⟨h1,h2,h3,h4,h5⟩:=getVs_can hb (Int.le_refl _) (by omega) h
 have hl : 0 < l.length:=by omega
 have ht:=typF_of hl (by omega) h2
 have hne : typF l ≠ 0:=by
  cases l with
  | nil => simp at hl
  | cons v r =>
   have:=typA_mem h2 v (by simp)
   have:=valOkF_ty this.1
   omega
 refine ⟨by omega,ht,?_⟩
 unfold encP
 rw [if_neg hne]
 simp only [Int.toNat_zero,List.drop_zero] at h5
 constructor
 ·intro e
  have hl2:=congrArg List.length h5
  rw [← e] at hl2
  simp only [List.length_append,List.length_drop] at hl2
  omega
 ·intro e
  rw [e] at h5
  simpa using h5

structure XRun where
 V : XVal
 K : Int
 deriving Inhabited
@[simp] def XRun.e (x : XRun) : List D:=[di x.V.Ty,di x.V.N,.str x.V.S,di x.K]

/-- Runs: the last run may grow. -/
def runAdd (o : List XRun) (v : XVal) : List XRun:=match o.getLast? with
 | some r => if valEq r.V v = true then o.dropLast ++ [⟨r.V,r.K + 1⟩] else o ++ [⟨v,1⟩]
 | none => [⟨v,1⟩]
def runsG (o : List XRun) : List XVal → List XRun
 | [] => o
 | v :: l => runsG (runAdd o v) l
def runsF (l : List XVal) : List XRun:=runsG [] l

def putR (r : XRun) : List Int:=encN r.K ++ putV r.V
theorem putR_ok (r : XRun) : bytesOk (putR r):=bytesOk_append (encN_ok _) (putV_ok _)
theorem putR_len (r : XRun) : (putR r).length ≤ 12:=by
 have:=encN_len r.K
 have:=putV_len r.V
 simp only [putR,List.length_append]; omega

theorem runAdd_len (o : List XRun) (v : XVal) : (runAdd o v).length ≤ o.length + 1:=by
 unfold runAdd
 split
 ·split
  ·rename_i r hr _
   have : o ≠ []:=fun e => by rw [e] at hr; simp at hr
   have:=List.length_pos_iff.2 this
   simp <;> omega
  ·simp
 ·simp
theorem runsG_len : ∀ (l : List XVal) (o : List XRun),(runsG o l).length ≤ o.length + l.length
 | [],o => by simp [runsG]
 | v :: l,o => by
  have:=runsG_len l (runAdd o v)
  have:=runAdd_len o v
  simp only [runsG,List.length_cons]; omega
theorem runsF_len (l : List XVal) : (runsF l).length ≤ l.length:=by
 have:=runsG_len l []
 simpa [runsF] using this

def encRs (l : List XRun) : List Int:=l.flatMap putR
theorem encRs_len : ∀ l : List XRun,(encRs l).length ≤ 12 * l.length
 | [] => by simp [encRs]
 | v :: l => by
  have h1:=putR_len v
  have h2:=encRs_len l
  simp only [encRs] at h2
  simp only [encRs,List.flatMap_cons,List.length_append,List.length_cons]
  omega
def encR (l : List XVal) : List Int:=if typF l = 0 then [] else encN (runsF l).length ++ encRs (runsF l)
theorem encR_ok (l : List XVal) : bytesOk (encR l):=by
 unfold encR; split; exact bytesOk_nil; exact bytesOk_append (encN_ok _) (bytesOk_flat putR_ok _)
theorem encR_len (l : List XVal) : (encR l).length ≤ 1000:=by
 unfold encR; split
 ·simp
 ·rename_i h
  have:=(typF_ne h).2.1
  have:=runsF_len l
  have:=encRs_len (runsF l)
  have:=encN_len ((runsF l).length : Int)
  simp only [List.length_append]; omega

def spG (o : List XVal) : List XRun → List XVal
 | [] => o
 | r :: l => if r.K < 1 ∨ 64 - (o.length : Int) < r.K then [] else spG (o ++ List.replicate r.K.toNat r.V) l
def spreadF (l : List XRun) : List XVal:=spG [] l
theorem spG_len : ∀ (l : List XRun) (o : List XVal),o.length ≤ 64 → (spG o l).length ≤ 64
 | [],o,h => h
 | r :: l,o,h => by
  simp only [spG]
  split
  ·simp
  ·exact spG_len l _ (by simp; omega)
theorem spreadF_len (l : List XRun) : (spreadF l).length ≤ 64:=spG_len l [] (by simp)

def getR (b : List Int) (u ty : Int) : Option (XRun × Int):=match gN b u with
 | some (n,t) => match getV b t ty with
  | some (v,t2) => some (⟨v,n⟩,t2)
  | none => none
 | none => none
def getRs (b : List Int) (ty : Int) : Nat → Int → Option (List XRun × Int)
 | 0,u => some ([],u)
 | k + 1,u => match getR b u ty with
  | some (v,t) => match getRs b ty k t with
   | some (l,t2) => some (v :: l,t2)
   | none => none
  | none => none
theorem getRs_some {b : List Int} {ty : Int} {a : List XRun} {k : Nat} {u t : Int} {v : XRun} (h : getR b u ty = some (v,t)) : preL a (getRs b ty (k + 1) u) = preL (a ++ [v]) (getRs b ty k t):=by
 simp only [getRs,h]
 cases getRs b ty k t with
 | none => rfl
 | some x => simp [preL]
theorem getRs_none {b : List Int} {ty : Int} {a : List XRun} {k : Nat} {u : Int} (h : getR b u ty = none) : preL a (getRs b ty (k + 1) u) = none:=by
 simp only [getRs,h]; rfl

/-- Values decoded by an encoding that is compared. -/
def chkE (b : List Int) (k : Int) (e : List XVal → List Int) (l : List XVal) : Option (List XVal):=if (1 ≤ k ∧ k ≤ 64) ∧ (l.length : Int) = k ∧ b = e l then some l else none

def decR (b : List Int) (ty k : Int) : Option (List XVal):=match gN b 0 with
 | some (n,u) => if 1 ≤ n ∧ n ≤ 64 then (match getRs b ty n.toNat u with
  | some (r,_) => chkE b k encR (spreadF r)
  | none => none) else none
 | none => none

def ltVF (t n : Int) (s : ByteArray) (t' n' : Int) (s' : ByteArray) : Bool:=if t = t' then (if n = n' then Op.bytesLess s.toList s'.toList else decide (n < n')) else decide (t < t')
def ltV (a b : XVal) : Bool:=ltVF a.Ty a.N a.S b.Ty b.N b.S

theorem bless_irrefl : ∀ x : List UInt8,Op.bytesLess x x = false
 | [] => rfl
 | a :: x => by simp [Op.bytesLess,bless_irrefl x]
theorem bless_trans : ∀ x y z : List UInt8,Op.bytesLess x y = true → Op.bytesLess y z = true → Op.bytesLess x z = true
 | _,[],_,h,_ => by simp [Op.bytesLess] at h
 | _,_ :: _,[],_,h => by simp [Op.bytesLess] at h
 | [],_ :: _,_ :: _,_,_ => rfl
 | a :: x,b :: y,c :: z,h1,h2 => by
  simp only [Op.bytesLess,Bool.or_eq_true,Bool.and_eq_true,decide_eq_true_eq,beq_iff_eq] at h1 h2 ⊢
  rcases h1 with h1 | ⟨rfl,h1⟩
  ·rcases h2 with h2 | ⟨rfl,h2⟩
   ·exact .inl (UInt8.lt_trans h1 h2)
   ·exact .inl h1
  ·rcases h2 with h2 | ⟨rfl,h2⟩
   ·exact .inl h2
   ·exact .inr ⟨rfl,bless_trans x y z h1 h2⟩
theorem bless_tri : ∀ x y : List UInt8,Op.bytesLess x y = false → Op.bytesLess y x = false → x = y
 | [],[],_,_ => rfl
 | [],_ :: _,h,_ => by simp [Op.bytesLess] at h
 | _ :: _,[],_,h => by simp [Op.bytesLess] at h
 | a :: x,b :: y,h1,h2 => by
  simp only [Op.bytesLess,Bool.or_eq_false_iff,Bool.and_eq_false_iff,decide_eq_false_iff_not,beq_eq_false_iff_ne] at h1 h2
  have e : a = b:=by
   apply UInt8.le_antisymm
   ·exact UInt8.not_lt.1 h2.1
   ·exact UInt8.not_lt.1 h1.1
  subst e
  rw [bless_tri x y (h1.2.resolve_left (fun h => h rfl)) (h2.2.resolve_left (fun h => h rfl))]

theorem ltV_iff (a b : XVal) : ltV a b = true ↔ a.Ty < b.Ty ∨ (a.Ty = b.Ty ∧ (a.N < b.N ∨ (a.N = b.N ∧ Op.bytesLess a.S.toList b.S.toList = true))):=by
 unfold ltV ltVF
 split
 ·split
  ·constructor
   ·intro h; exact .inr ⟨by assumption,.inr ⟨by assumption,h⟩⟩
   ·rintro (h | ⟨_,h | h⟩)
    ·omega
    ·omega
    ·exact h.2
  ·simp only [decide_eq_true_eq]
   constructor
   ·intro h; exact .inr ⟨by assumption,.inl h⟩
   ·rintro (h | ⟨_,h | h⟩)
    ·omega
    ·exact h
    ·exact absurd h.1 (by assumption)
 ·simp only [decide_eq_true_eq]
  constructor
  ·intro h; exact .inl h
  ·rintro (h | ⟨h,_⟩)
   ·exact h
   ·exact absurd h (by assumption)

theorem ltV_irrefl (a : XVal) : ltV a a = false:=by
 simp [ltV,ltVF,bless_irrefl]
theorem ltV_trans {a b c : XVal} (h1 : ltV a b = true) (h2 : ltV b c = true) : ltV a c = true:=by
 rw [ltV_iff] at *
 rcases h1 with h1 | ⟨e1,h1⟩ <;> rcases h2 with h2 | ⟨e2,h2⟩
 ·left; omega
 ·left; omega
 ·left; omega
 ·right
  refine ⟨by omega,?_⟩
  rcases h1 with h1 | ⟨f1,h1⟩ <;> rcases h2 with h2 | ⟨f2,h2⟩
  ·left; omega
  ·left; omega
  ·left; omega
  ·exact .inr ⟨by omega,bless_trans _ _ _ h1 h2⟩
theorem ltV_tri {a b : XVal} (h1 : ltV a b = false) (h2 : ltV b a = false) : a = b:=by
 rw [Bool.eq_false_iff,ne_eq,ltV_iff] at h1 h2
 obtain ⟨t,n,s⟩:=a
 obtain ⟨t',n',s'⟩:=b
 simp only at h1 h2
 have e1 : t = t':=by omega
 subst e1
 have e2 : n = n':=by
  rcases Int.lt_trichotomy n n' with h | h | h
  ·exact absurd (.inr ⟨rfl,.inl h⟩) h1
  ·exact h
  ·exact absurd (.inr ⟨rfl,.inl h⟩) h2
 subst e2
 have e3 : s.toList = s'.toList:=by
  apply bless_tri
  ·cases hh : Op.bytesLess s.toList s'.toList with
   | false => rfl
   | true => exact absurd (.inr ⟨rfl,.inr ⟨rfl,hh⟩⟩) h1
  ·cases hh : Op.bytesLess s'.toList s.toList with
   | false => rfl
   | true => exact absurd (.inr ⟨rfl,.inr ⟨rfl,hh⟩⟩) h2
 rw [ba_inj e3]
theorem ltV_asymm {a b : XVal} (h : ltV a b = true) : ltV b a = false:=by
 cases hh : ltV b a with
 | false => rfl
 | true => have:=ltV_trans h hh; rw [ltV_irrefl] at this; cases this

def cmpV (a b : XVal) : Int:=if ltV a b = true then -1 else if ltV b a = true then 1 else 0

def SrtV (l : List XVal) : Prop:=l.Pairwise fun a b => ltV a b = true

/-- The dictionary: each value once,in order. -/
def insV (v : XVal) : List XVal → List XVal
 | [] => [v]
 | x :: l => if ltV x v = true then x :: insV v l else if valEq x v = true then x :: l else v :: x :: l
def dictG (d : List XVal) : List XVal → List XVal
 | [] => d
 | v :: l => dictG (insV v d) l
def dictF (l : List XVal) : List XVal:=dictG [] l

theorem insV_mem {v : XVal} : ∀ {d : List XVal} {x : XVal},x ∈ insV v d ↔ x = v ∨ x ∈ d
 | [],x => by simp [insV]
 | y :: d,x => by
  simp only [insV]
  split
  ·simp only [List.mem_cons,insV_mem (d:=d)]
   constructor
   ·rintro (h | h | h)
    ·exact .inr (.inl h)
    ·exact .inl h
    ·exact .inr (.inr h)
   ·rintro (h | h | h)
    ·exact .inr (.inl h)
    ·exact .inl h
    ·exact .inr (.inr h)
  ·split
   ·rename_i h
    have:=valEq_iff.1 h
    subst this
    simp only [List.mem_cons]
    constructor
    ·exact fun h => .inr h
    ·rintro (h | h)
     ·exact .inl h
     ·exact h
   ·simp only [List.mem_cons]
theorem insV_srt {v : XVal} : ∀ {d : List XVal},SrtV d → SrtV (insV v d)
 | [],_ => by simp [insV,SrtV]
 | y :: d,h => by
  unfold SrtV at h
  rw [List.pairwise_cons] at h
  simp only [insV]
  split
  ·rename_i h1
   refine List.pairwise_cons.2 ⟨fun x hx => ?_,insV_srt h.2⟩
   rcases insV_mem.1 hx with rfl | hx
   ·exact h1
   ·exact h.1 x hx
  ·split
   ·exact List.pairwise_cons.2 h
   ·rename_i h1 h2
    have h3 : ltV v y = true:=by
     cases hh : ltV v y with
     | true => rfl
     | false => exact absurd (valEq_iff.2 (ltV_tri (by simpa using h1) hh)) h2
    refine List.pairwise_cons.2 ⟨fun x hx => ?_,List.pairwise_cons.2 h⟩
    rcases List.mem_cons.1 hx with rfl | hx
    ·exact h3
    ·exact ltV_trans h3 (h.1 x hx)
theorem insV_len (v : XVal) : ∀ d : List XVal,(insV v d).length ≤ d.length + 1
 | [] => by simp [insV]
 | y :: d => by
  have:=insV_len v d
  simp only [insV]
  split
  ·simp; omega
  ·split <;> simp
theorem dictG_mem : ∀ {l d : List XVal} {x : XVal},x ∈ dictG d l ↔ x ∈ d ∨ x ∈ l
 | [],d,x => by simp [dictG]
 | v :: l,d,x => by
  simp only [dictG,dictG_mem (l:=l),insV_mem,List.mem_cons]
  constructor
  ·rintro ((h | h) | h)
   ·exact .inr (.inl h)
   ·exact .inl h
   ·exact .inr (.inr h)
  ·rintro (h | h | h)
   ·exact .inl (.inr h)
   ·exact .inl (.inl h)
   ·exact .inr h
theorem dictG_srt : ∀ {l d : List XVal},SrtV d → SrtV (dictG d l)
 | [],_,h => h
 | _ :: l,_,h => dictG_srt (l:=l) (insV_srt h)
theorem dictG_len : ∀ l d : List XVal,(dictG d l).length ≤ d.length + l.length
 | [],d => by simp [dictG]
 | v :: l,d => by
  have:=dictG_len l (insV v d)
  have:=insV_len v d
  simp only [dictG,List.length_cons]; omega
theorem dictF_mem {l : List XVal} {x : XVal} : x ∈ dictF l ↔ x ∈ l:=by simp [dictF,dictG_mem]
theorem dictF_srt (l : List XVal) : SrtV (dictF l):=dictG_srt (by simp [SrtV])
theorem dictF_len (l : List XVal) : (dictF l).length ≤ l.length:=by simpa [dictF] using dictG_len l []

theorem srtV_unique : ∀ {A B : List XVal},(∀ x,x ∈ A ↔ x ∈ B) → SrtV A → SrtV B → A = B
 | [],[],_,_,_ => rfl
 | [],b :: B,h,_,_ => by have:=(h b).2 (by simp); simp at this
 | a :: A,[],h,_,_ => by have:=(h a).1 (by simp); simp at this
 | a :: A,b :: B,h,h1,h2 => by
  unfold SrtV at h1 h2
  rw [List.pairwise_cons] at h1 h2
  have e : a = b:=by
   rcases List.mem_cons.1 ((h a).1 (by simp)) with e | ha
   ·exact e
   ·rcases List.mem_cons.1 ((h b).2 (by simp)) with e | hb
    ·exact e.symm
    ·have:=ltV_asymm (h1.1 b hb)
     rw [h2.1 a ha] at this; cases this
  subst e
  rw [srtV_unique (A:=A) (B:=B) (fun x => ?_) h1.2 h2.2]
  constructor
  ·intro hx
   rcases List.mem_cons.1 ((h x).1 (by simp [hx])) with e | hb
   ·subst e; have:=h1.1 x hx; rw [ltV_irrefl] at this; cases this
   ·exact hb
  ·intro hx
   rcases List.mem_cons.1 ((h x).2 (by simp [hx])) with e | hb
   ·subst e; have:=h2.1 x hx; rw [ltV_irrefl] at this; cases this
   ·exact hb

/-- Equal neighbours become one. -/
def compG (p : XVal) : List XVal → List XVal
 | [] => [p]
 | v :: l => if valEq v p = true then compG p l else p :: compG v l
def compF : List XVal → List XVal
 | [] => []
 | v :: l => compG v l

theorem compG_mem : ∀ {l : List XVal} {p x : XVal},x ∈ compG p l ↔ x = p ∨ x ∈ l
 | [],p,x => by simp [compG]
 | v :: l,p,x => by
  simp only [compG]
  split
  ·rename_i h
   have:=valEq_iff.1 h
   subst this
   rw [compG_mem]
   simp only [List.mem_cons]
   constructor
   ·rintro (h | h)
    ·exact .inl h
    ·exact .inr (.inr h)
   ·rintro (h | h | h)
    ·exact .inl h
    ·exact .inl h
    ·exact .inr h
  ·simp only [List.mem_cons,compG_mem (l:=l)]
theorem compG_srt : ∀ {l : List XVal} {p : XVal},(p :: l).Pairwise (fun a b => ltV b a = false) → SrtV (compG p l)
 | [],p,_ => by simp [compG,SrtV]
 | v :: l,p,h => by
  rw [List.pairwise_cons] at h
  simp only [compG]
  split
  ·rename_i hv
   have:=valEq_iff.1 hv
   subst this
   exact compG_srt h.2
  ·rename_i hv
   have hp : ltV p v = true:=by
    cases hh : ltV p v with
    | true => rfl
    | false => exact absurd (valEq_iff.2 (ltV_tri (h.1 v (by simp)) hh)) hv
   refine List.pairwise_cons.2 ⟨fun x hx => ?_,compG_srt h.2⟩
   rcases compG_mem.1 hx with rfl | hx
   ·exact hp
   ·have h2:=(List.pairwise_cons.1 h.2).1 x hx
    cases hh : ltV p x with
    | true => rfl
    | false =>
     have:=ltV_tri hh (h.1 x (by simp [hx]))
     subst this
     rw [hp] at h2; cases h2

def sortV (l : List XVal) : List XVal:=l.mergeSort fun x y => !ltV y x

theorem sortV_mem {l : List XVal} {x : XVal} : x ∈ sortV l ↔ x ∈ l:=(List.mergeSort_perm _ _).mem_iff
theorem sortV_len (l : List XVal) : (sortV l).length = l.length:=List.length_mergeSort _
theorem sortV_srt (l : List XVal) : (sortV l).Pairwise fun a b => ltV b a = false:=by
 have:=List.pairwise_mergeSort (le:=fun x y => !ltV y x) (fun a b c h1 h2 => by
  simp only [Bool.not_eq_true'] at h1 h2 ⊢
  cases hh : ltV c a with
  | false => rfl
  | true =>
   cases h3 : ltV a b with
   | true => rw [ltV_trans hh h3] at h2; cases h2
   | false =>
    have:=ltV_tri h3 h1
    subst this
    rw [hh] at h2; cases h2) (fun a b => by
  cases hh : ltV b a with
  | false => simp
  | true => simp [ltV_asymm hh]) l
 exact this.imp (by intro a b h; simpa using h)

theorem comp_sort (l : List XVal) : compF (sortV l) = dictF l:=by
 apply srtV_unique _ _ (dictF_srt l)
 ·intro x
  rw [dictF_mem]
  have hm:=sortV_mem (l:=l) (x:=x)
  cases h : sortV l with
  | nil => rw [h] at hm; rw [← hm]; simp [compF]
  | cons v r => rw [h] at hm; rw [← hm]; simp [compF,compG_mem]
 ·have:=sortV_srt l
  cases h : sortV l with
  | nil => simp [compF,SrtV]
  | cons v r => rw [h] at this; exact compG_srt this

/-- Where a value stands in a dictionary. -/
def inD (v : XVal) : List XVal → Int → Int
 | [],_ => -1
 | x :: d,i => if valEq x v = true then i else inD v d (i + 1)
theorem inD_rng (v : XVal) : ∀ (d : List XVal) (i : Int),0 ≤ i → inD v d i = -1 ∨ (0 ≤ inD v d i ∧ inD v d i < i + (d.length : Int))
 | [],i,_ => .inl rfl
 | x :: d,i,hi => by
  simp only [inD]
  split
  ·right; simp; omega
  ·have:=inD_rng v d (i + 1) (by omega)
   simp only [List.length_cons]; omega
def placesF (d : List XVal) : List XVal → Option (List Int)
 | [] => some []
 | v :: l => if inD v d 0 < 0 then none else match placesF d l with
  | some p => some (inD v d 0 :: p)
  | none => none
def placesD (d l : List XVal) : List Int:=match placesF d l with
 | some p => p
 | none => []
theorem placesF_len (d : List XVal) : ∀ {l : List XVal} {p : List Int},placesF d l = some p → p.length = l.length
 | [],p,h => by simp [placesF] at h; subst h; rfl
 | v :: l,p,h => by
  simp only [placesF] at h
  split at h
  ·cases h
  ·split at h
   ·rename_i q hq
    simp at h; subst h
    simp [placesF_len d hq]
   ·cases h
theorem placesD_len (d l : List XVal) : (placesD d l).length ≤ l.length:=by
 unfold placesD; split
 ·rename_i p hp; rw [placesF_len d hp]; omega
 ·simp
def pickF (d : List XVal) : List Int → Option (List XVal)
 | [] => some []
 | i :: l => if 0 ≤ i then (match d[i.toNat]? with
  | some v => match pickF d l with
   | some r => some (v :: r)
   | none => none
  | none => none) else none
theorem pickF_len (d : List XVal) : ∀ {l : List Int} {r : List XVal},pickF d l = some r → r.length = l.length
 | [],r,h => by simp [pickF] at h; subst h; rfl
 | i :: l,r,h => by
  simp only [pickF] at h
  split at h
  ·split at h
   ·split at h
    ·rename_i q hq
     simp at h; subst h
     simp [pickF_len d hq]
    ·cases h
   ·cases h
  ·cases h

def encD (l : List XVal) : List Int:=if typF l = 0 then [] else
 encN (dictF l).length ++ encVs (dictF l) ++ packF (placesD (dictF l) l) (widI ((dictF l).length - 1))
theorem encD_ok (l : List XVal) : bytesOk (encD l):=by
 unfold encD; split; exact bytesOk_nil; exact bytesOk_append (bytesOk_append (encN_ok _) (encVs_ok _)) (packF_ok _ _)
theorem encD_len (l : List XVal) : (encD l).length ≤ 1000:=by
 unfold encD; split
 ·simp
 ·rename_i h
  have:=(typF_ne h).2.1
  have:=dictF_len l
  have:=encVs_len (dictF l)
  have:=encN_len ((dictF l).length : Int)
  have:=packF_len (placesD (dictF l) l) (widI ((dictF l).length - 1))
  have:=placesD_len (dictF l) l
  simp only [List.length_append]; omega

/-- The dictionary decoded; most: the bound on its size. -/
def decDn (most : Int) (b : List Int) (ty k : Int) : Option (List XVal):=match gN b 0 with
 | some (n,u) => if 1 ≤ n ∧ n ≤ most then (match getVs b ty n.toNat u with
  | some (d,t) => match unpF (b.drop t.toNat) (widI (n - 1)) k with
   | some p => match pickF d p with
    | some l => chkE b k encD l
    | none => none
   | none => none
  | none => none) else none
 | none => none
def decD (b : List Int) (ty k : Int) : Option (List XVal):=decDn k b ty k

theorem chkE_some {b : List Int} {k : Int} {e : List XVal → List Int} {l l' : List XVal} (h : chkE b k e l = some l') : l' = l ∧ (1 ≤ k ∧ k ≤ 64) ∧ (l.length : Int) = k ∧ b = e l:=by
 unfold chkE at h
 split at h
 ·simp at h; exact ⟨h.symm,by assumption⟩
 ·cases h

theorem decD_eq (b : List Int) (ty k : Int) (hk : 1 ≤ k ∧ k ≤ 64) : decDn 64 b ty k = decD b ty k:=by
 unfold decD decDn
 cases hg : gN b 0 with
 | none => rfl
 | some q =>
  obtain ⟨n,u⟩:=q
  simp only
  by_cases h1 : 1 ≤ n ∧ n ≤ 64
  ·rw [if_pos h1]
   by_cases h2 : n ≤ k
   ·rw [if_pos ⟨h1.1,h2⟩]
   ·rw [if_neg (fun e => h2 e.2)]
    cases hv : getVs b ty n.toNat u with
    | none => rfl
    | some q =>
     obtain ⟨d,t⟩:=q
     simp only
     cases hu : unpF (b.drop t.toNat) (widI (n - 1)) k with
     | none => rfl
     | some p =>
      simp only
      cases hp : pickF d p with
      | none => rfl
      | some l =>
       simp only
       cases hc : chkE b k encD l with
       | none => rfl
       | some l' =>
        exfalso
        obtain ⟨rfl,_,hl,he⟩:=chkE_some hc
        have hne : typF l' ≠ 0:=by
         intro e
         rw [encD,if_pos e] at he
         subst he
         simp [gN] at hg
        have:=dictF_len l'
        have:=(typF_ne hne).2.1
        rw [encD,if_neg hne,List.append_assoc] at he
        rw [he,gN_enc (by omega)] at hg
        simp at hg
        omega
  ·rw [if_neg h1,if_neg (fun e => h1 ⟨e.1,by omega⟩)]

/-- Frames. -/
def baseG (m : Int) : List XVal → Int
 | [] => m
 | v :: l => baseG (if v.N < m then v.N else m) l
def baseF : List XVal → Int
 | [] => 0
 | v :: l => baseG v.N l
theorem baseG_le : ∀ (l : List XVal) (m : Int),baseG m l ≤ m ∧ (∀ v ∈ l,baseG m l ≤ v.N) ∧ (baseG m l = m ∨ ∃ v ∈ l,baseG m l = v.N)
 | [],m => by simp [baseG]
 | x :: l,m => by
  obtain ⟨h1,h2,h3⟩:=baseG_le l (if x.N < m then x.N else m)
  simp only [baseG]
  refine ⟨?_,?_,?_⟩
  ·revert h1; split <;> intro h1 <;> omega
  ·intro v hv
   rcases List.mem_cons.1 hv with rfl | hv
   ·revert h1; split <;> intro h1 <;> omega
   ·exact h2 v hv
  ·rcases h3 with h3 | ⟨v,hv,h3⟩
   ·rw [h3]
    split
    ·exact .inr ⟨x,by simp,rfl⟩
    ·exact .inl rfl
   ·exact .inr ⟨v,by simp [hv],h3⟩
theorem baseF_le {l : List XVal} (h : 0 < l.length) : (∀ v ∈ l,baseF l ≤ v.N) ∧ ∃ v ∈ l,baseF l = v.N:=by
 cases l with
 | nil => simp at h
 | cons x l =>
  obtain ⟨h1,h2,h3⟩:=baseG_le l x.N
  simp only [baseF]
  refine ⟨fun v hv => ?_,?_⟩
  ·rcases List.mem_cons.1 hv with rfl | hv
   ·exact h1
   ·exact h2 v hv
  ·rcases h3 with h3 | ⟨v,hv,h3⟩
   ·exact ⟨x,by simp,h3⟩
   ·exact ⟨v,by simp [hv],h3⟩
def offsF (l : List XVal) : List Int:=l.map fun v => v.N - baseF l

theorem typ1 {l : List XVal} (h : typF l = 1) : 1 ≤ l.length ∧ l.length ≤ 64 ∧ ∀ v ∈ l,v.Ty = 1 ∧ v.S = ⟨#[]⟩ ∧ (-1000000000 ≤ v.N ∧ v.N ≤ 1000000000):=by
 obtain ⟨h1,h2,h3,_⟩:=typF_ne (l:=l) (by omega)
 rw [h] at h3
 refine ⟨h1,h2,fun v hv => ?_⟩
 obtain ⟨h4,h5⟩:=typA_mem h3 v hv
 rw [h5] at h4
 have:=valOkF_one h4
 exact ⟨h5,this.2,this.1⟩

def encF (l : List XVal) : List Int:=if typF l = 1 then encN (baseF l) ++ wfF 0 (offsF l) :: packF (offsF l) (wfF 0 (offsF l)) else []
theorem wf_rng (l : List Int) : 0 ≤ wfF 0 l ∧ wfF 0 l ≤ 31:=wfF_rng l 0 (by omega)
theorem encF_ok (l : List XVal) : bytesOk (encF l):=by
 unfold encF; split
 ·have:=wf_rng (offsF l)
  exact bytesOk_append (encN_ok _) (bytesOk_cons (by omega) (packF_ok _ _))
 ·exact bytesOk_nil
theorem encF_len (l : List XVal) : (encF l).length ≤ 1000:=by
 unfold encF; split
 ·rename_i h
  have:=(typ1 h).2.1
  have:=encN_len (baseF l)
  have:=packF_len (offsF l) (wfF 0 (offsF l))
  have : (offsF l).length = l.length:=by simp [offsF]
  simp only [List.length_append,List.length_cons]; omega
 ·simp

def raiseL (base : Int) : List Int → Option (List XVal)
 | [] => some []
 | x :: l => if (0 ≤ x ∧ x ≤ 2000000000) ∧ base + x ≤ 1000000000 then (match raiseL base l with
  | some r => some (⟨1,base + x,⟨#[]⟩⟩ :: r)
  | none => none) else none
def raiseF (base : Int) (l : List Int) : Option (List XVal):=if numB base = true then raiseL base l else none
theorem raiseL_len (base : Int) : ∀ {l : List Int} {r : List XVal},raiseL base l = some r → r.length = l.length
 | [],r,h => by simp [raiseL] at h; subst h; rfl
 | i :: l,r,h => by
  simp only [raiseL] at h
  split at h
  ·split at h
   ·rename_i q hq
    simp at h; subst h
    simp [raiseL_len base hq]
   ·cases h
  ·cases h

def decF (b : List Int) (k : Int) : Option (List XVal):=match gN b 0 with
 | some (n,u) => match b[u.toNat]? with
  | some w => match unpF (b.drop (u + 1).toNat) w k with
   | some p => match raiseF n p with
    | some l => chkE b k encF l
    | none => none
   | none => none
  | none => none
 | none => none

/-- Encodings by kind. -/
def encBy (kind : Int) (l : List XVal) : List Int:=if kind = 0 then encP l else if kind = 1 then encR l else if kind = 2 then encD l else if kind = 3 then encF l else []
theorem encBy_ok (kind : Int) (l : List XVal) : bytesOk (encBy kind l):=by
 unfold encBy
 split; exact encP_ok l
 split; exact encR_ok l
 split; exact encD_ok l
 split; exact encF_ok l
 exact bytesOk_nil
theorem encBy_len (kind : Int) (l : List XVal) : (encBy kind l).length ≤ 1000:=by
 unfold encBy
 split; exact Nat.le_trans (encP_len l) (by omega)
 split; exact encR_len l
 split; exact encD_len l
 split; exact encF_len l
 simp
def lenBy (kind : Int) (l : List XVal) : Int:=((encBy kind l).length : Int)
def bestF (l : List XVal) : Int :=
 let t:=typF l
 if t = 0 then -1 else
 let b1:=if lenBy 1 l < lenBy 0 l then 1 else 0
 let b2:=if lenBy 2 l < lenBy b1 l then 2 else b1
 if t = 1 ∧ lenBy 3 l < lenBy b2 l then 3 else b2
theorem bestF_rng (l : List XVal) : bestF l = -1 ∨ (0 ≤ bestF l ∧ bestF l ≤ 3):=by
 unfold bestF
 simp only
 split
 ·exact .inl rfl
 ·right
  split
  ·omega
  ·split
   ·omega
   ·split <;> omega
def encC (l : List XVal) : List Int:=if bestF l < 0 then [] else bestF l :: encBy (bestF l) l
theorem encC_ok (l : List XVal) : bytesOk (encC l):=by
 unfold encC; split
 ·exact bytesOk_nil
 ·have:=bestF_rng l
  exact bytesOk_cons (by omega) (encBy_ok _ _)
theorem encC_len (l : List XVal) : (encC l).length ≤ 1001:=by
 unfold encC; split
 ·simp
 ·have:=encBy_len (bestF l) l
  simp; omega

def decBy (kind : Int) (b : List Int) (ty k : Int) : Option (List XVal):=if kind = 0 then decP b ty k else if kind = 1 then decR b ty k else if kind = 2 then decD b ty k else if kind = 3 then decF b k else none
def decC (b : List Int) (ty k : Int) : Option (List XVal):=match b with
 | [] => none
 | c :: r => match decBy c r ty k with
  | some l => if typF l = ty ∧ b = encC l then some l else none
  | none => none

end Go.Proofs.YtmlinnkaccgcgaaGreat.OM
