/- What the functions answer. -/
import Derived.Test.YtcgekefbkccelaaGreatOMTypes
import Derived.Test.YtcgekefbkccelaaGreatOMHid
import Derived.Test.YtcgekefbkccelaaGreatXRowAtPc0
set_option linter.all false
namespace Go.Proofs.YtcgekefbkccelaaGreat.OM
set_option maxHeartbeats 4000000
set_option maxRecDepth 100000

def tab:List (Nat × PF):=[(1,pf1),(12,pf12),(19,pf19),(59,pf59),(60,pf60),(68,pf68),(69,pf69),(76,pf76),(78,pf78),(79,pf79),(87,pf87),(142,pf142),(143,pf143),(144,pf144),(145,pf145),(146,pf146),(147,pf147),(148,pf148),(149,pf149),(150,pf150),(151,pf151),(152,pf152),(153,pf153),(154,pf154),(155,pf155),(156,pf156),(157,pf157),(158,pf158),(159,pf159),(160,pf160),(161,pf161),(162,pf162),(163,pf163),(164,pf164),(165,pf165),(166,pf166),(167,pf167),(181,pf181),(183,pf183),(184,pf184),(186,pf186),(187,pf187),(188,pf188),(189,pf189),(190,pf190),(191,pf191),(192,pf192),(193,pf193),(194,pf194),(195,pf195),(196,pf196),(197,pf197),(198,pf198),(210,pf210),(211,pf211),(212,pf212),(213,pf213),(214,pf214),(215,pf215),(216,pf216),(217,pf217),(218,pf218),(219,pf219),(220,pf220),(221,pf221),(222,pf222),(223,pf223),(224,pf224),(225,pf225),(226,pf226),(227,pf227),(228,pf228),(229,pf229),(230,pf230),(231,pf231),(232,pf232),(233,pf233),(234,pf234),(235,pf235),(236,pf236),(237,pf237),(238,pf238),(239,pf239),(240,pf240),(241,pf241),(242,pf242),(243,pf243),(244,pf244),(245,pf245),(246,pf246),(247,pf247),(248,pf248),(249,pf249),(250,pf250),(251,pf251),(252,pf252),(253,pf253),(254,pf254),(255,pf255),(256,pf256),(257,pf257),(258,pf258),(259,pf259),(268,pf268),(298,pf298),(340,pf340),(341,pf341),(377,pf377),(384,pf384),(400,pf400),(402,pf402),(413,pf413),(423,pf423),(424,pf424),(425,pf425),(426,pf426),(446,pf446),(449,pf449),(462,pf462),(463,pf463),(481,pf481),(490,pf490),(491,pf491),(492,pf492),(493,pf493),(494,pf494),(495,pf495),(496,pf496),(497,pf497),(498,pf498),(505,pf505),(508,pf508),(513,pf513),(514,pf514),(515,pf515),(516,pf516),(517,pf517),(518,pf518),(519,pf519),(520,pf520),(521,pf521),(522,pf522),(523,pf523),(524,pf524),(525,pf525),(526,pf526),(527,pf527),(528,pf528),(529,pf529),(530,pf530),(531,pf531),(538,pf538),(539,pf539),(540,pf540),(541,pf541),(542,pf542),(543,pf543),(544,pf544),(545,pf545),(546,pf546),(547,pf547),(548,pf548),(549,pf549),(550,pf550),(551,pf551),(552,pf552),(553,pf553),(554,pf554),(555,pf555),(556,pf556),(557,pf557),(558,pf558),(559,pf559),(560,pf560),(561,pf561),(562,pf562),(566,pf566),(568,pf568),(569,pf569),(570,pf570),(571,pf571),(572,pf572),(573,pf573),(574,pf574),(575,pf575),(576,pf576),(577,pf577),(578,pf578),(579,pf579),(580,pf580),(581,pf581),(582,pf582),(583,pf583),(584,pf584),(585,pf585),(586,pf586),(587,pf587),(588,pf588),(589,pf589),(590,pf590),(591,pf591),(592,pf592),(593,pf593),(594,pf594),(595,pf595),(596,pf596),(597,pf597),(598,pf598),(600,pf600)]
def TT (k:Nat):Option PF:=tab.lookup k

@[simp] theorem t244 (k0:Bool) (l:List Int) (h:l.length≤1048576) :Gw TT 244 [.one (.ro k0 (.sl 1 (l.map ei)))] = some (.one (.own (.sl 1 (l.map ei))),[]):=by
 refine Ga pf244 pb244 ?_
 unfold pb244
 refine Ud Oo ?_
 repeat intro hc
 ·refine wp_loopI (σ:=List Int × List Int) (fun s => [(0,AV.v k0 (D.sl 1 (List.map ei l)),none),(3,AV.pl 3 0 [],some (Rt.vir [C.own (D.sl 1 (s.1.map ei ++ List.replicate s.2.length [.int .i64 0]))])),(4,AV.v false (di (s.1.length:Nat)),none)]) (fun s => l = s.1 ++ s.2) (fun s => s.2.length) ([],l) (by simp) rfl ?_
  rintro ⟨pre,rest⟩ h1
  simp only at h1
  subst h1
  simp only [List.length_append,List.length_cons] at h
  rcases rest with _ | ⟨d,rest⟩
  ·unfold pl244_0
   refine Ud Oo ?_
   all_goals simp [pf244]
  ·unfold pl244_0
   simp only [List.length_cons] at h
   have hw:=Wi ((pre.length:Int) + 1)
   refine Ud (J2 @repS hw) ?_
   repeat intro hc
   all_goals exact ⟨(pre ++ [d],rest),by simp,by simp,by simp⟩

@[simp] theorem t152 (k0 k1:Bool) (l:List Int) (h:l.length≤1048576) :Gw TT 152 [.one (.ro k0 (.sl 1 (l.map ei))),.one (.ro k1 (.sl 1 (l.map ei)))] = some (vb true,[]):=by
 refine Ga pf152 pb152 ?_
 unfold pb152
 refine Ud Oo ?_
 ·refine wp_loopI (σ:=List Int × List Int) (fun s => [(0,AV.v k0 (D.sl 1 (List.map ei l)),none),(1,AV.v k1 (D.sl 1 (List.map ei l)),none),(5,AV.v false (di (s.1.length:Nat)),none)]) (fun s => l = s.1 ++ s.2) (fun s => s.2.length) ([],l) (by simp) rfl ?_
  rintro ⟨pre,rest⟩ h1
  simp only at h1
  subst h1
  simp only [List.length_append,List.length_cons] at h
  rcases rest with _ | ⟨d,rest⟩
  ·unfold pl152_0
   refine Ud Oo ?_
   all_goals simp [pf152]
  ·unfold pl152_0
   simp only [List.length_cons] at h
   have hw:=Wi ((pre.length:Int) + 1)
   refine Ud hw ?_
   repeat intro hc
   all_goals exact ⟨(pre ++ [d],rest),by simp,by simp,by simp⟩

@[simp] theorem t236 (k0:Bool) (l:List Int) (h:l.length≤1048576) :Gw TT 236 [.one (.ro k0 (.sl 1 (l.map eb)))] = some (.one (.own (.sl 1 (l.map eb))),[]):=by
 refine Ga pf236 pb236 ?_
 unfold pb236
 refine Ud Oo ?_
 repeat intro hc
 ·refine wp_loopI (σ:=List Int × List Int) (fun s => [(0,AV.v k0 (D.sl 1 (List.map eb l)),none),(3,AV.pl 3 0 [],some (Rt.vir [C.own (D.sl 1 (s.1.map eb ++ List.replicate s.2.length [.int .u8 0]))])),(4,AV.v false (di (s.1.length:Nat)),none)]) (fun s => l = s.1 ++ s.2) (fun s => s.2.length) ([],l) (by simp) rfl ?_
  rintro ⟨pre,rest⟩ h1
  simp only at h1
  subst h1
  simp only [List.length_append,List.length_cons] at h
  rcases rest with _ | ⟨d,rest⟩
  ·unfold pl236_0
   refine Ud Oo ?_
   all_goals simp [pf236]
  ·unfold pl236_0
   simp only [List.length_cons] at h
   have hw:=Wi ((pre.length:Int) + 1)
   refine Ud (J2 @repS hw) ?_
   repeat intro hc
   all_goals exact ⟨(pre ++ [d],rest),by simp,by simp,by simp⟩

@[simp] theorem t144 (k0 k1:Bool) (l:List Int) (h:l.length≤1048576) :Gw TT 144 [.one (.ro k0 (.sl 1 (l.map eb))),.one (.ro k1 (.sl 1 (l.map eb)))] = some (vb true,[]):=by
 refine Ga pf144 pb144 ?_
 unfold pb144
 refine Ud Oo ?_
 ·refine wp_loopI (σ:=List Int × List Int) (fun s => [(0,AV.v k0 (D.sl 1 (List.map eb l)),none),(1,AV.v k1 (D.sl 1 (List.map eb l)),none),(5,AV.v false (di (s.1.length:Nat)),none)]) (fun s => l = s.1 ++ s.2) (fun s => s.2.length) ([],l) (by simp) rfl ?_
  rintro ⟨pre,rest⟩ h1
  simp only at h1
  subst h1
  simp only [List.length_append,List.length_cons] at h
  rcases rest with _ | ⟨d,rest⟩
  ·unfold pl144_0
   refine Ud Oo ?_
   all_goals simp [pf144]
  ·unfold pl144_0
   simp only [List.length_cons] at h
   have hw:=Wi ((pre.length:Int) + 1)
   refine Ud hw ?_
   repeat intro hc
   all_goals exact ⟨(pre ++ [d],rest),by simp,by simp,by simp⟩

@[simp] theorem t257 (a x_N:Int) (x_S:ByteArray) :Gw TT 257 [.st [.ro false (di a),.ro false (di x_N),.ro false (.str x_S)]] = some (.st [.ro false (di a),.ro false (di x_N),.ro false (.str x_S)],[]):=by
 refine Ga pf257 pb257 ?_
 unfold pb257
 refine Ua Oo ?_
 all_goals simp [pf257]

@[simp] theorem t258 (k0:Bool) (l:List XVal) (h:l.length≤1048576) (hs:XVal.sms l):Gw TT 258 [.one (.ro k0 (.sl 3 (l.map XVal.e)))] = some (.one (.own (.sl 3 (l.map XVal.e))),[]):=by
 refine Ga pf258 pb258 ?_
 unfold pb258
 refine Ud Oo ?_
 repeat intro hc
 ·refine wp_loopI (σ:=List XVal × List XVal) (fun s => [(0,AV.v k0 (D.sl 3 (List.map XVal.e l)),none),(3,AV.pl 3 0 [],some (Rt.vir [C.own (D.sl 3 (s.1.map XVal.e ++ List.replicate s.2.length [.int .i64 0,.int .i64 0,.str ⟨#[]⟩]))])),(4,AV.v false (di (s.1.length:Nat)),none)]) (fun s => l = s.1 ++ s.2) (fun s => s.2.length) ([],l) (by simp) rfl ?_
  rintro ⟨pre,rest⟩ h1
  simp only at h1
  subst h1
  simp only [List.length_append,List.length_cons] at h
  rcases rest with _ | ⟨⟨a,y_N,y_S⟩,rest⟩
  ·unfold pl258_0
   refine Ud Oo ?_
   all_goals simp [pf258]
  ·unfold pl258_0
   simp only [List.length_cons] at h
   have hw:=Wi ((pre.length:Int) + 1)
   have hd:=hs ⟨a,y_N,y_S⟩ (by simp)
   simp only [XVal.sm,and_assoc] at hd
   have aa:=hd
   refine Ud (J3 @repS hw aa) ?_
   repeat intro hc
   all_goals exact ⟨(pre ++ [⟨a,y_N,y_S⟩],rest),by simp,by simp,by simp⟩

@[simp] theorem t165 (a x_N:Int) (x_S:ByteArray) :Gw TT 165 [.st [.ro false (di a),.ro false (di x_N),.ro false (.str x_S)],.st [.ro false (di a),.ro false (di x_N),.ro false (.str x_S)]] = some (vb true,[]):=by
 refine Ga pf165 pb165 ?_
 unfold pb165
 refine Ua Oo ?_
 all_goals simp [pf165]

@[simp] theorem t166 (k0 k1:Bool) (l:List XVal) (h:l.length≤1048576) (hs:XVal.sms l):Gw TT 166 [.one (.ro k0 (.sl 3 (l.map XVal.e))),.one (.ro k1 (.sl 3 (l.map XVal.e)))] = some (vb true,[]):=by
 refine Ga pf166 pb166 ?_
 unfold pb166
 refine Ud Oo ?_
 ·refine wp_loopI (σ:=List XVal × List XVal) (fun s => [(0,AV.v k0 (D.sl 3 (List.map XVal.e l)),none),(1,AV.v k1 (D.sl 3 (List.map XVal.e l)),none),(5,AV.v false (di (s.1.length:Nat)),none)]) (fun s => l = s.1 ++ s.2) (fun s => s.2.length) ([],l) (by simp) rfl ?_
  rintro ⟨pre,rest⟩ h1
  simp only at h1
  subst h1
  simp only [List.length_append,List.length_cons] at h
  rcases rest with _ | ⟨⟨a,y_N,y_S⟩,rest⟩
  ·unfold pl166_0
   refine Ud Oo ?_
   all_goals simp [pf166]
  ·unfold pl166_0
   simp only [List.length_cons] at h
   have hw:=Wi ((pre.length:Int) + 1)
   have hd:=hs ⟨a,y_N,y_S⟩ (by simp)
   simp only [XVal.sm,and_assoc] at hd
   have aa:=hd
   refine Ud (J2 hw aa) ?_
   repeat intro hc
   all_goals exact ⟨(pre ++ [⟨a,y_N,y_S⟩],rest),by simp,by simp,by simp⟩

@[simp] theorem t251 (k0:Bool) (a:Int) (x_L:List XVal) (aa:x_L.length≤1048576) (ab:XVal.sms x_L):Gw TT 251 [.st [.ro false (di a),.ro k0 (.sl 3 (x_L.map XVal.e))]] = some (.st [.ro false (di a),.own (.sl 3 (x_L.map XVal.e))],[]):=by
 refine Ga pf251 pb251 ?_
 unfold pb251
 refine Ua (J2 aa ab) ?_
 all_goals simp [pf251]

@[simp] theorem t252 (k0:Bool) (l:List XRow) (h:l.length≤1048576) (hs:XRow.sms l):Gw TT 252 [.one (.ro k0 (.sl 2 (l.map XRow.e)))] = some (.one (.own (.sl 2 (l.map XRow.e))),[]):=by
 refine Ga pf252 pb252 ?_
 unfold pb252
 refine Ud Oo ?_
 repeat intro hc
 ·refine wp_loopI (σ:=List XRow × List XRow) (fun s => [(0,AV.v k0 (D.sl 2 (List.map XRow.e l)),none),(3,AV.pl 3 0 [],some (Rt.vir [C.own (D.sl 2 (s.1.map XRow.e ++ List.replicate s.2.length [.int .i64 0,.sl 3 []]))])),(4,AV.v false (di (s.1.length:Nat)),none)]) (fun s => l = s.1 ++ s.2) (fun s => s.2.length) ([],l) (by simp) rfl ?_
  rintro ⟨pre,rest⟩ h1
  simp only at h1
  subst h1
  simp only [List.length_append,List.length_cons] at h
  rcases rest with _ | ⟨⟨a,y_L⟩,rest⟩
  ·unfold pl252_0
   refine Ud Oo ?_
   all_goals simp [pf252]
  ·unfold pl252_0
   simp only [List.length_cons] at h
   have hw:=Wi ((pre.length:Int) + 1)
   have hd:=hs ⟨a,y_L⟩ (by simp)
   simp only [XRow.sm,and_assoc] at hd
   obtain ⟨aa,ab⟩:=hd
   refine Ud (J4 @repS hw aa ab) ?_
   repeat intro hc
   all_goals exact ⟨(pre ++ [⟨a,y_L⟩],rest),by simp,by simp,by simp⟩

@[simp] theorem t159 (k0 k1:Bool) (a:Int) (x_L:List XVal) (aa:x_L.length≤1048576) (ab:XVal.sms x_L):Gw TT 159 [.st [.ro false (di a),.ro k0 (.sl 3 (x_L.map XVal.e))],.st [.ro false (di a),.ro k1 (.sl 3 (x_L.map XVal.e))]] = some (vb true,[]):=by
 refine Ga pf159 pb159 ?_
 unfold pb159
 refine Ua (J2 aa ab) ?_
 all_goals simp [pf159]

@[simp] theorem t160 (k0 k1:Bool) (l:List XRow) (h:l.length≤1048576) (hs:XRow.sms l):Gw TT 160 [.one (.ro k0 (.sl 2 (l.map XRow.e))),.one (.ro k1 (.sl 2 (l.map XRow.e)))] = some (vb true,[]):=by
 refine Ga pf160 pb160 ?_
 unfold pb160
 refine Ud Oo ?_
 ·refine wp_loopI (σ:=List XRow × List XRow) (fun s => [(0,AV.v k0 (D.sl 2 (List.map XRow.e l)),none),(1,AV.v k1 (D.sl 2 (List.map XRow.e l)),none),(5,AV.v false (di (s.1.length:Nat)),none)]) (fun s => l = s.1 ++ s.2) (fun s => s.2.length) ([],l) (by simp) rfl ?_
  rintro ⟨pre,rest⟩ h1
  simp only at h1
  subst h1
  simp only [List.length_append,List.length_cons] at h
  rcases rest with _ | ⟨⟨a,y_L⟩,rest⟩
  ·unfold pl160_0
   refine Ud Oo ?_
   all_goals simp [pf160]
  ·unfold pl160_0
   simp only [List.length_cons] at h
   have hw:=Wi ((pre.length:Int) + 1)
   have hd:=hs ⟨a,y_L⟩ (by simp)
   simp only [XRow.sm,and_assoc] at hd
   obtain ⟨aa,ab⟩:=hd
   refine Ud (J3 hw aa ab) ?_
   repeat intro hc
   all_goals exact ⟨(pre ++ [⟨a,y_L⟩],rest),by simp,by simp,by simp⟩

@[simp] theorem t239 (a aa ab:Int) :Gw TT 239 [.st [.ro false (di a),.ro false (di aa),.ro false (di ab)]] = some (.st [.ro false (di a),.ro false (di aa),.ro false (di ab)],[]):=by
 refine Ga pf239 pb239 ?_
 unfold pb239
 refine Ua Oo ?_
 all_goals simp [pf239]

@[simp] theorem t240 (k0:Bool) (l:List XDead) (h:l.length≤1048576) :Gw TT 240 [.one (.ro k0 (.sl 3 (l.map XDead.e)))] = some (.one (.own (.sl 3 (l.map XDead.e))),[]):=by
 refine Ga pf240 pb240 ?_
 unfold pb240
 refine Ud Oo ?_
 repeat intro hc
 ·refine wp_loopI (σ:=List XDead × List XDead) (fun s => [(0,AV.v k0 (D.sl 3 (List.map XDead.e l)),none),(3,AV.pl 3 0 [],some (Rt.vir [C.own (D.sl 3 (s.1.map XDead.e ++ List.replicate s.2.length [.int .i64 0,.int .i64 0,.int .i64 0]))])),(4,AV.v false (di (s.1.length:Nat)),none)]) (fun s => l = s.1 ++ s.2) (fun s => s.2.length) ([],l) (by simp) rfl ?_
  rintro ⟨pre,rest⟩ h1
  simp only at h1
  subst h1
  simp only [List.length_append,List.length_cons] at h
  rcases rest with _ | ⟨⟨a,aa,ab⟩,rest⟩
  ·unfold pl240_0
   refine Ud Oo ?_
   all_goals simp [pf240]
  ·unfold pl240_0
   simp only [List.length_cons] at h
   have hw:=Wi ((pre.length:Int) + 1)
   refine Ud (J2 @repS hw) ?_
   repeat intro hc
   all_goals exact ⟨(pre ++ [⟨a,aa,ab⟩],rest),by simp,by simp,by simp⟩

@[simp] theorem t147 (a aa ab:Int) :Gw TT 147 [.st [.ro false (di a),.ro false (di aa),.ro false (di ab)],.st [.ro false (di a),.ro false (di aa),.ro false (di ab)]] = some (vb true,[]):=by
 refine Ga pf147 pb147 ?_
 unfold pb147
 refine Ua Oo ?_
 all_goals simp [pf147]

@[simp] theorem t148 (k0 k1:Bool) (l:List XDead) (h:l.length≤1048576) :Gw TT 148 [.one (.ro k0 (.sl 3 (l.map XDead.e))),.one (.ro k1 (.sl 3 (l.map XDead.e)))] = some (vb true,[]):=by
 refine Ga pf148 pb148 ?_
 unfold pb148
 refine Ud Oo ?_
 ·refine wp_loopI (σ:=List XDead × List XDead) (fun s => [(0,AV.v k0 (D.sl 3 (List.map XDead.e l)),none),(1,AV.v k1 (D.sl 3 (List.map XDead.e l)),none),(5,AV.v false (di (s.1.length:Nat)),none)]) (fun s => l = s.1 ++ s.2) (fun s => s.2.length) ([],l) (by simp) rfl ?_
  rintro ⟨pre,rest⟩ h1
  simp only at h1
  subst h1
  simp only [List.length_append,List.length_cons] at h
  rcases rest with _ | ⟨⟨a,aa,ab⟩,rest⟩
  ·unfold pl148_0
   refine Ud Oo ?_
   all_goals simp [pf148]
  ·unfold pl148_0
   simp only [List.length_cons] at h
   have hw:=Wi ((pre.length:Int) + 1)
   refine Ud hw ?_
   repeat intro hc
   all_goals exact ⟨(pre ++ [⟨a,aa,ab⟩],rest),by simp,by simp,by simp⟩

@[simp] theorem t248 (a aa:Int) (ab ac ad:Int) :Gw TT 248 [.st [.ro false (di a),.ro false (di aa),.ro false (di ab),.ro false (di ac),.ro false (di ad)]] = some (.st [.ro false (di a),.ro false (di aa),.ro false (di ab),.ro false (di ac),.ro false (di ad)],[]):=by
 refine Ga pf248 pb248 ?_
 unfold pb248
 refine Ua Oo ?_
 all_goals simp [pf248]

@[simp] theorem t249 (k0:Bool) (l:List XRef) (h:l.length≤1048576) :Gw TT 249 [.one (.ro k0 (.sl 5 (l.map XRef.e)))] = some (.one (.own (.sl 5 (l.map XRef.e))),[]):=by
 refine Ga pf249 pb249 ?_
 unfold pb249
 refine Ud Oo ?_
 repeat intro hc
 ·refine wp_loopI (σ:=List XRef × List XRef) (fun s => [(0,AV.v k0 (D.sl 5 (List.map XRef.e l)),none),(3,AV.pl 3 0 [],some (Rt.vir [C.own (D.sl 5 (s.1.map XRef.e ++ List.replicate s.2.length [.int .i64 0,.int .i64 0,.int .i64 0,.int .i64 0,.int .i64 0]))])),(4,AV.v false (di (s.1.length:Nat)),none)]) (fun s => l = s.1 ++ s.2) (fun s => s.2.length) ([],l) (by simp) rfl ?_
  rintro ⟨pre,rest⟩ h1
  simp only at h1
  subst h1
  simp only [List.length_append,List.length_cons] at h
  rcases rest with _ | ⟨⟨a,aa,ab,ac,ad⟩,rest⟩
  ·unfold pl249_0
   refine Ud Oo ?_
   all_goals simp [pf249]
  ·unfold pl249_0
   simp only [List.length_cons] at h
   have hw:=Wi ((pre.length:Int) + 1)
   refine Ud (J2 @repS hw) ?_
   repeat intro hc
   all_goals exact ⟨(pre ++ [⟨a,aa,ab,ac,ad⟩],rest),by simp,by simp,by simp⟩

@[simp] theorem t156 (a aa:Int) (ab ac ad:Int) :Gw TT 156 [.st [.ro false (di a),.ro false (di aa),.ro false (di ab),.ro false (di ac),.ro false (di ad)],.st [.ro false (di a),.ro false (di aa),.ro false (di ab),.ro false (di ac),.ro false (di ad)]] = some (vb true,[]):=by
 refine Ga pf156 pb156 ?_
 unfold pb156
 refine Ua Oo ?_
 all_goals simp [pf156]

@[simp] theorem t157 (k0 k1:Bool) (l:List XRef) (h:l.length≤1048576) :Gw TT 157 [.one (.ro k0 (.sl 5 (l.map XRef.e))),.one (.ro k1 (.sl 5 (l.map XRef.e)))] = some (vb true,[]):=by
 refine Ga pf157 pb157 ?_
 unfold pb157
 refine Ud Oo ?_
 ·refine wp_loopI (σ:=List XRef × List XRef) (fun s => [(0,AV.v k0 (D.sl 5 (List.map XRef.e l)),none),(1,AV.v k1 (D.sl 5 (List.map XRef.e l)),none),(5,AV.v false (di (s.1.length:Nat)),none)]) (fun s => l = s.1 ++ s.2) (fun s => s.2.length) ([],l) (by simp) rfl ?_
  rintro ⟨pre,rest⟩ h1
  simp only at h1
  subst h1
  simp only [List.length_append,List.length_cons] at h
  rcases rest with _ | ⟨⟨a,aa,ab,ac,ad⟩,rest⟩
  ·unfold pl157_0
   refine Ud Oo ?_
   all_goals simp [pf157]
  ·unfold pl157_0
   simp only [List.length_cons] at h
   have hw:=Wi ((pre.length:Int) + 1)
   refine Ud hw ?_
   repeat intro hc
   all_goals exact ⟨(pre ++ [⟨a,aa,ab,ac,ad⟩],rest),by simp,by simp,by simp⟩

@[simp] theorem t243 (k0:Bool) (a:Int) (x_L:List XRef) (aa:x_L.length≤1048576):Gw TT 243 [.st [.ro false (di a),.ro k0 (.sl 5 (x_L.map XRef.e))]] = some (.st [.ro false (di a),.own (.sl 5 (x_L.map XRef.e))],[]):=by
 refine Ga pf243 pb243 ?_
 unfold pb243
 refine Ua aa ?_
 all_goals simp [pf243]

@[simp] theorem t151 (k0 k1:Bool) (a:Int) (x_L:List XRef) (aa:x_L.length≤1048576):Gw TT 151 [.st [.ro false (di a),.ro k0 (.sl 5 (x_L.map XRef.e))],.st [.ro false (di a),.ro k1 (.sl 5 (x_L.map XRef.e))]] = some (vb true,[]):=by
 refine Ga pf151 pb151 ?_
 unfold pb151
 refine Ua aa ?_
 all_goals simp [pf151]

@[simp] theorem t253 (k0:Bool) (a:Int) (x_L:List XVal) (aa:x_L.length≤1048576) (ab:XVal.sms x_L):Gw TT 253 [.st [.ro false (di a),.ro k0 (.sl 3 (x_L.map XVal.e))]] = some (.st [.ro false (di a),.own (.sl 3 (x_L.map XVal.e))],[]):=by
 refine Ga pf253 pb253 ?_
 unfold pb253
 refine Ua (J2 aa ab) ?_
 all_goals simp [pf253]

@[simp] theorem t254 (k0:Bool) (l:List XSlot) (h:l.length≤1048576) (hs:XSlot.sms l):Gw TT 254 [.one (.ro k0 (.sl 2 (l.map XSlot.e)))] = some (.one (.own (.sl 2 (l.map XSlot.e))),[]):=by
 refine Ga pf254 pb254 ?_
 unfold pb254
 refine Ud Oo ?_
 repeat intro hc
 ·refine wp_loopI (σ:=List XSlot × List XSlot) (fun s => [(0,AV.v k0 (D.sl 2 (List.map XSlot.e l)),none),(3,AV.pl 3 0 [],some (Rt.vir [C.own (D.sl 2 (s.1.map XSlot.e ++ List.replicate s.2.length [.int .i64 0,.sl 3 []]))])),(4,AV.v false (di (s.1.length:Nat)),none)]) (fun s => l = s.1 ++ s.2) (fun s => s.2.length) ([],l) (by simp) rfl ?_
  rintro ⟨pre,rest⟩ h1
  simp only at h1
  subst h1
  simp only [List.length_append,List.length_cons] at h
  rcases rest with _ | ⟨⟨a,y_L⟩,rest⟩
  ·unfold pl254_0
   refine Ud Oo ?_
   all_goals simp [pf254]
  ·unfold pl254_0
   simp only [List.length_cons] at h
   have hw:=Wi ((pre.length:Int) + 1)
   have hd:=hs ⟨a,y_L⟩ (by simp)
   simp only [XSlot.sm,and_assoc] at hd
   obtain ⟨aa,ab⟩:=hd
   refine Ud (J4 @repS hw aa ab) ?_
   repeat intro hc
   all_goals exact ⟨(pre ++ [⟨a,y_L⟩],rest),by simp,by simp,by simp⟩

@[simp] theorem t161 (k0 k1:Bool) (a:Int) (x_L:List XVal) (aa:x_L.length≤1048576) (ab:XVal.sms x_L):Gw TT 161 [.st [.ro false (di a),.ro k0 (.sl 3 (x_L.map XVal.e))],.st [.ro false (di a),.ro k1 (.sl 3 (x_L.map XVal.e))]] = some (vb true,[]):=by
 refine Ga pf161 pb161 ?_
 unfold pb161
 refine Ua (J2 aa ab) ?_
 all_goals simp [pf161]

@[simp] theorem t162 (k0 k1:Bool) (l:List XSlot) (h:l.length≤1048576) (hs:XSlot.sms l):Gw TT 162 [.one (.ro k0 (.sl 2 (l.map XSlot.e))),.one (.ro k1 (.sl 2 (l.map XSlot.e)))] = some (vb true,[]):=by
 refine Ga pf162 pb162 ?_
 unfold pb162
 refine Ud Oo ?_
 ·refine wp_loopI (σ:=List XSlot × List XSlot) (fun s => [(0,AV.v k0 (D.sl 2 (List.map XSlot.e l)),none),(1,AV.v k1 (D.sl 2 (List.map XSlot.e l)),none),(5,AV.v false (di (s.1.length:Nat)),none)]) (fun s => l = s.1 ++ s.2) (fun s => s.2.length) ([],l) (by simp) rfl ?_
  rintro ⟨pre,rest⟩ h1
  simp only at h1
  subst h1
  simp only [List.length_append,List.length_cons] at h
  rcases rest with _ | ⟨⟨a,y_L⟩,rest⟩
  ·unfold pl162_0
   refine Ud Oo ?_
   all_goals simp [pf162]
  ·unfold pl162_0
   simp only [List.length_cons] at h
   have hw:=Wi ((pre.length:Int) + 1)
   have hd:=hs ⟨a,y_L⟩ (by simp)
   simp only [XSlot.sm,and_assoc] at hd
   obtain ⟨aa,ab⟩:=hd
   refine Ud (J3 hw aa ab) ?_
   repeat intro hc
   all_goals exact ⟨(pre ++ [⟨a,y_L⟩],rest),by simp,by simp,by simp⟩

@[simp] theorem t237 (k0:Bool) (a:Int) (x_L:List XSlot) (aa:x_L.length≤1048576) (ab:XSlot.sms x_L):Gw TT 237 [.st [.ro false (di a),.ro k0 (.sl 2 (x_L.map XSlot.e))]] = some (.st [.ro false (di a),.own (.sl 2 (x_L.map XSlot.e))],[]):=by
 refine Ga pf237 pb237 ?_
 unfold pb237
 refine Ua (J2 aa ab) ?_
 all_goals simp [pf237]

@[simp] theorem t145 (k0 k1:Bool) (a:Int) (x_L:List XSlot) (aa:x_L.length≤1048576) (ab:XSlot.sms x_L):Gw TT 145 [.st [.ro false (di a),.ro k0 (.sl 2 (x_L.map XSlot.e))],.st [.ro false (di a),.ro k1 (.sl 2 (x_L.map XSlot.e))]] = some (vb true,[]):=by
 refine Ga pf145 pb145 ?_
 unfold pb145
 refine Ua (J2 aa ab) ?_
 all_goals simp [pf145]

@[simp] theorem t234 (k0:Bool) (aa ab ac:Int) (a:List XSlot) (x_G:List Int) (ad:a.length≤1048576) (ae:XSlot.sms a) (af:x_G.length≤1048576):Gw TT 234 [.st [.ro false (di aa),.ro false (di ab),.ro false (di ac),.ro k0 (.sl 2 (a.map XSlot.e)),.ro k0 (.sl 1 (x_G.map eb))]] = some (.st [.ro false (di aa),.ro false (di ab),.ro false (di ac),.own (.sl 2 (a.map XSlot.e)),.own (.sl 1 (x_G.map eb))],[]):=by
 refine Ga pf234 pb234 ?_
 unfold pb234
 refine Ua (J3 ad ae af) ?_
 all_goals simp [pf234]

@[simp] theorem t235 (k0:Bool) (l:List XBuf) (h:l.length≤1048576) (hs:XBuf.sms l):Gw TT 235 [.one (.ro k0 (.sl 5 (l.map XBuf.e)))] = some (.one (.own (.sl 5 (l.map XBuf.e))),[]):=by
 refine Ga pf235 pb235 ?_
 unfold pb235
 refine Ud Oo ?_
 repeat intro hc
 ·refine wp_loopI (σ:=List XBuf × List XBuf) (fun s => [(0,AV.v k0 (D.sl 5 (List.map XBuf.e l)),none),(3,AV.pl 3 0 [],some (Rt.vir [C.own (D.sl 5 (s.1.map XBuf.e ++ List.replicate s.2.length [.int .i64 0,.int .i64 0,.int .i64 0,.sl 2 [],.sl 1 []]))])),(4,AV.v false (di (s.1.length:Nat)),none)]) (fun s => l = s.1 ++ s.2) (fun s => s.2.length) ([],l) (by simp) rfl ?_
  rintro ⟨pre,rest⟩ h1
  simp only at h1
  subst h1
  simp only [List.length_append,List.length_cons] at h
  rcases rest with _ | ⟨⟨a,aa,⟨ab,ac⟩,y_G⟩,rest⟩
  ·unfold pl235_0
   refine Ud Oo ?_
   all_goals simp [pf235]
  ·unfold pl235_0
   simp only [List.length_cons] at h
   have hw:=Wi ((pre.length:Int) + 1)
   have hd:=hs ⟨a,aa,⟨ab,ac⟩,y_G⟩ (by simp)
   simp only [XBuf.sm,XChunk.sm,and_assoc] at hd
   obtain ⟨ad,ae,af⟩:=hd
   refine Ud (J5 @repS hw ad ae af) ?_
   repeat intro hc
   all_goals exact ⟨(pre ++ [⟨a,aa,⟨ab,ac⟩,y_G⟩],rest),by simp,by simp,by simp⟩

@[simp] theorem t142 (k0 k1:Bool) (aa ab ac:Int) (a:List XSlot) (x_G:List Int) (ad:a.length≤1048576) (ae:XSlot.sms a) (af:x_G.length≤1048576):Gw TT 142 [.st [.ro false (di aa),.ro false (di ab),.ro false (di ac),.ro k0 (.sl 2 (a.map XSlot.e)),.ro k0 (.sl 1 (x_G.map eb))],.st [.ro false (di aa),.ro false (di ab),.ro false (di ac),.ro k1 (.sl 2 (a.map XSlot.e)),.ro k1 (.sl 1 (x_G.map eb))]] = some (vb true,[]):=by
 refine Ga pf142 pb142 ?_
 unfold pb142
 refine Ua (J3 ad ae af) ?_
 all_goals simp [pf142]

@[simp] theorem t143 (k0 k1:Bool) (l:List XBuf) (h:l.length≤1048576) (hs:XBuf.sms l):Gw TT 143 [.one (.ro k0 (.sl 5 (l.map XBuf.e))),.one (.ro k1 (.sl 5 (l.map XBuf.e)))] = some (vb true,[]):=by
 refine Ga pf143 pb143 ?_
 unfold pb143
 refine Ud Oo ?_
 ·refine wp_loopI (σ:=List XBuf × List XBuf) (fun s => [(0,AV.v k0 (D.sl 5 (List.map XBuf.e l)),none),(1,AV.v k1 (D.sl 5 (List.map XBuf.e l)),none),(5,AV.v false (di (s.1.length:Nat)),none)]) (fun s => l = s.1 ++ s.2) (fun s => s.2.length) ([],l) (by simp) rfl ?_
  rintro ⟨pre,rest⟩ h1
  simp only at h1
  subst h1
  simp only [List.length_append,List.length_cons] at h
  rcases rest with _ | ⟨⟨a,aa,⟨ab,ac⟩,y_G⟩,rest⟩
  ·unfold pl143_0
   refine Ud Oo ?_
   all_goals simp [pf143]
  ·unfold pl143_0
   simp only [List.length_cons] at h
   have hw:=Wi ((pre.length:Int) + 1)
   have hd:=hs ⟨a,aa,⟨ab,ac⟩,y_G⟩ (by simp)
   simp only [XBuf.sm,XChunk.sm,and_assoc] at hd
   obtain ⟨ad,ae,af⟩:=hd
   refine Ud (J4 hw ad ae af) ?_
   repeat intro hc
   all_goals exact ⟨(pre ++ [⟨a,aa,⟨ab,ac⟩,y_G⟩],rest),by simp,by simp,by simp⟩

@[simp] theorem t238 (k0:Bool) (a:List Int) (aa ab:Int) (ac:a.length≤1048576):Gw TT 238 [.st [.ro k0 (.sl 1 (a.map ei)),.ro false (di aa),.ro false (di ab)]] = some (.st [.own (.sl 1 (a.map ei)),.ro false (di aa),.ro false (di ab)],[]):=by
 refine Ga pf238 pb238 ?_
 unfold pb238
 refine Ua ac ?_
 all_goals simp [pf238]

@[simp] theorem t146 (k0 k1:Bool) (a:List Int) (aa ab:Int) (ac:a.length≤1048576):Gw TT 146 [.st [.ro k0 (.sl 1 (a.map ei)),.ro false (di aa),.ro false (di ab)],.st [.ro k1 (.sl 1 (a.map ei)),.ro false (di aa),.ro false (di ab)]] = some (vb true,[]):=by
 refine Ga pf146 pb146 ?_
 unfold pb146
 refine Ua ac ?_
 all_goals simp [pf146]

def ToPred (x:XPred):Prop:=∀ k0:Bool,x.sm→Gw TT 245 [.st [.ro false (di x.Kind),.ro false (di x.Col),.ro false (di x.Op),.ro false (di x.V.Ty),.ro false (di x.V.N),.ro false (.str x.V.S),.ro k0 (.sl 7 (x.L.map XPred.e))]] = some (.st [.ro false (di x.Kind),.ro false (di x.Col),.ro false (di x.Op),.ro false (di x.V.Ty),.ro false (di x.V.N),.ro false (.str x.V.S),.own (.sl 7 (x.L.map XPred.e))],[])
def ToPreds (l:List XPred):Prop:=∀ k0:Bool,l.length≤1048576→XPred.sms l→Gw TT 246 [.one (.ro k0 (.sl 7 (l.map XPred.e)))] = some (.one (.own (.sl 7 (l.map XPred.e))),[])

theorem ToPreds_of (l:List XPred) (IH:∀ y ∈ l,ToPred y):ToPreds l:=by
 intro k0 h hs
 refine Ga pf246 pb246 ?_
 unfold pb246
 refine Ud Oo ?_
 repeat intro hc
 ·refine wp_loopI (σ:=List XPred × List XPred) (fun s => [(0,AV.v k0 (D.sl 7 (List.map XPred.e l)),none),(3,AV.pl 3 0 [],some (Rt.vir [C.own (D.sl 7 (s.1.map XPred.e ++ List.replicate s.2.length [.int .i64 0,.int .i64 0,.int .i64 0,.int .i64 0,.int .i64 0,.str ⟨#[]⟩,.sl 7 []]))])),(4,AV.v false (di (s.1.length:Nat)),none)]) (fun s => l = s.1 ++ s.2) (fun s => s.2.length) ([],l) (by simp) rfl ?_
  rintro ⟨pre,rest⟩ h1
  simp only at h1
  subst h1
  simp only [List.length_append,List.length_cons] at h
  rcases rest with _ | ⟨⟨a,aa,ab,⟨ac,ad,ae⟩,y_L⟩,rest⟩
  ·unfold pl246_0
   refine Ud Oo ?_
   all_goals simp [pf246]
  ·unfold pl246_0
   simp only [List.length_cons] at h
   have hw:=Wi ((pre.length:Int) + 1)
   have hd:=XPred.sms_mem hs ⟨a,aa,ab,⟨ac,ad,ae⟩,y_L⟩ (by simp)
   simp only [XPred.sm_eq,XVal.sm,and_assoc] at hd
   obtain ⟨af,ag,ah⟩:=hd
   have ih:=IH ⟨a,aa,ab,⟨ac,ad,ae⟩,y_L⟩ (by simp) k0 (XPred.sms_mem hs ⟨a,aa,ab,⟨ac,ad,ae⟩,y_L⟩ (by simp))
   simp only at ih
   refine Ud (J6 @repS hw ih af ag ah) ?_
   repeat intro hc
   all_goals exact ⟨(pre ++ [⟨a,aa,ab,⟨ac,ad,ae⟩,y_L⟩],rest),by simp,by simp,by simp⟩

theorem ToPred_of (x:XPred) (IH:ToPreds x.L):ToPred x:=by
 intro k0 hx
 obtain ⟨ab,ac,ad,⟨ae,af,ag⟩,x_L⟩:=x
 simp only [XPred.sm_eq,XVal.sm,and_assoc] at hx
 obtain ⟨ah,a,aa⟩:=hx
 have ih:=IH k0 a aa
 simp only at ih
 refine Ga pf245 pb245 ?_
 unfold pb245
 refine Ua ih ?_
 all_goals simp [pf245]

theorem ToPred_all (x:XPred):ToPred x :=
 ToPred_of x (ToPreds_of x.L fun y hy => ToPred_all y)
termination_by SizeOf.sizeOf x
decreasing_by
 have h1:=List.sizeOf_lt_of_mem hy
 have h2:SizeOf.sizeOf x.L < SizeOf.sizeOf x:=by cases x; simp; omega
 omega

@[simp] theorem t245 (k0:Bool) (aa ab:Int) (ac ad ae:Int) (a:ByteArray) (x_L:List XPred) (af:x_L.length≤1048576) (ag:XPred.sms x_L) (hv:a.size≤1048576):Gw TT 245 [.st [.ro false (di aa),.ro false (di ab),.ro false (di ac),.ro false (di ad),.ro false (di ae),.ro false (.str a),.ro k0 (.sl 7 (x_L.map XPred.e))]] = some (.st [.ro false (di aa),.ro false (di ab),.ro false (di ac),.ro false (di ad),.ro false (di ae),.ro false (.str a),.own (.sl 7 (x_L.map XPred.e))],[]):=ToPred_all ⟨aa,ab,ac,⟨ad,ae,a⟩,x_L⟩ k0 (by simp only [XPred.sm_eq,XVal.sm,and_assoc]; exact ⟨hv,af,ag⟩)

@[simp] theorem t246 (k0:Bool) (l:List XPred) (h:l.length≤1048576) (hs:XPred.sms l):Gw TT 246 [.one (.ro k0 (.sl 7 (l.map XPred.e)))] = some (.one (.own (.sl 7 (l.map XPred.e))),[]):=ToPreds_of l (fun y _ => ToPred_all y) k0 h hs

def EqPred (x:XPred):Prop:=∀ k0 k1:Bool,x.sm→Gw TT 153 [.st [.ro false (di x.Kind),.ro false (di x.Col),.ro false (di x.Op),.ro false (di x.V.Ty),.ro false (di x.V.N),.ro false (.str x.V.S),.ro k0 (.sl 7 (x.L.map XPred.e))],.st [.ro false (di x.Kind),.ro false (di x.Col),.ro false (di x.Op),.ro false (di x.V.Ty),.ro false (di x.V.N),.ro false (.str x.V.S),.ro k1 (.sl 7 (x.L.map XPred.e))]] = some (vb true,[])
def EqPreds (l:List XPred):Prop:=∀ k0 k1:Bool,l.length≤1048576→XPred.sms l→Gw TT 154 [.one (.ro k0 (.sl 7 (l.map XPred.e))),.one (.ro k1 (.sl 7 (l.map XPred.e)))] = some (vb true,[])

theorem EqPreds_of (l:List XPred) (IH:∀ y ∈ l,EqPred y):EqPreds l:=by
 intro k0 k1 h hs
 refine Ga pf154 pb154 ?_
 unfold pb154
 refine Ud Oo ?_
 ·refine wp_loopI (σ:=List XPred × List XPred) (fun s => [(0,AV.v k0 (D.sl 7 (List.map XPred.e l)),none),(1,AV.v k1 (D.sl 7 (List.map XPred.e l)),none),(5,AV.v false (di (s.1.length:Nat)),none)]) (fun s => l = s.1 ++ s.2) (fun s => s.2.length) ([],l) (by simp) rfl ?_
  rintro ⟨pre,rest⟩ h1
  simp only at h1
  subst h1
  simp only [List.length_append,List.length_cons] at h
  rcases rest with _ | ⟨⟨a,aa,ab,⟨ac,ad,ae⟩,y_L⟩,rest⟩
  ·unfold pl154_0
   refine Ud Oo ?_
   all_goals simp [pf154]
  ·unfold pl154_0
   simp only [List.length_cons] at h
   have hw:=Wi ((pre.length:Int) + 1)
   have hd:=XPred.sms_mem hs ⟨a,aa,ab,⟨ac,ad,ae⟩,y_L⟩ (by simp)
   simp only [XPred.sm_eq,XVal.sm,and_assoc] at hd
   obtain ⟨af,ag,ah⟩:=hd
   have ih:=IH ⟨a,aa,ab,⟨ac,ad,ae⟩,y_L⟩ (by simp) k0 k1 (XPred.sms_mem hs ⟨a,aa,ab,⟨ac,ad,ae⟩,y_L⟩ (by simp))
   simp only at ih
   refine Ud (J5 hw ih af ag ah) ?_
   repeat intro hc
   all_goals exact ⟨(pre ++ [⟨a,aa,ab,⟨ac,ad,ae⟩,y_L⟩],rest),by simp,by simp,by simp⟩

theorem EqPred_of (x:XPred) (IH:EqPreds x.L):EqPred x:=by
 intro k0 k1 hx
 obtain ⟨ab,ac,ad,⟨ae,af,ag⟩,x_L⟩:=x
 simp only [XPred.sm_eq,XVal.sm,and_assoc] at hx
 obtain ⟨ah,a,aa⟩:=hx
 have ih:=IH k0 k1 a aa
 simp only at ih
 refine Ga pf153 pb153 ?_
 unfold pb153
 refine Ua ih ?_
 all_goals simp [pf153]

theorem EqPred_all (x:XPred):EqPred x :=
 EqPred_of x (EqPreds_of x.L fun y hy => EqPred_all y)
termination_by SizeOf.sizeOf x
decreasing_by
 have h1:=List.sizeOf_lt_of_mem hy
 have h2:SizeOf.sizeOf x.L < SizeOf.sizeOf x:=by cases x; simp; omega
 omega

@[simp] theorem t153 (k0 k1:Bool) (aa ab:Int) (ac ad ae:Int) (a:ByteArray) (x_L:List XPred) (af:x_L.length≤1048576) (ag:XPred.sms x_L) (hv:a.size≤1048576):Gw TT 153 [.st [.ro false (di aa),.ro false (di ab),.ro false (di ac),.ro false (di ad),.ro false (di ae),.ro false (.str a),.ro k0 (.sl 7 (x_L.map XPred.e))],.st [.ro false (di aa),.ro false (di ab),.ro false (di ac),.ro false (di ad),.ro false (di ae),.ro false (.str a),.ro k1 (.sl 7 (x_L.map XPred.e))]] = some (vb true,[]):=EqPred_all ⟨aa,ab,ac,⟨ad,ae,a⟩,x_L⟩ k0 k1 (by simp only [XPred.sm_eq,XVal.sm,and_assoc]; exact ⟨hv,af,ag⟩)

@[simp] theorem t154 (k0 k1:Bool) (l:List XPred) (h:l.length≤1048576) (hs:XPred.sms l):Gw TT 154 [.one (.ro k0 (.sl 7 (l.map XPred.e))),.one (.ro k1 (.sl 7 (l.map XPred.e)))] = some (vb true,[]):=EqPreds_of l (fun y _ => EqPred_all y) k0 k1 h hs

@[simp] theorem t247 (k0:Bool) (ac ad:Int) (ae af:Int) (ag ah:Int) (aa:ByteArray) (a:List XPred) (ai:Int) (ab:List Int) (aj:aa.size≤1048576) (ak:a.length≤1048576) (al:XPred.sms a) (am:ab.length≤1048576):Gw TT 247 [.st [.ro false (di ac),.ro false (di ad),.ro false (di ae),.ro false (di af),.ro false (di ag),.ro false (di ah),.ro false (.str aa),.ro k0 (.sl 7 (a.map XPred.e)),.ro false (di ai),.ro k0 (.sl 1 (ab.map ei))]] = some (.st [.ro false (di ac),.ro false (di ad),.ro false (di ae),.ro false (di af),.ro false (di ag),.ro false (di ah),.ro false (.str aa),.own (.sl 7 (a.map XPred.e)),.ro false (di ai),.own (.sl 1 (ab.map ei))],[]):=by
 refine Ga pf247 pb247 ?_
 unfold pb247
 refine Ua (J4 aj ak al am) ?_
 all_goals simp [pf247]

@[simp] theorem t155 (k0 k1:Bool) (ac ad:Int) (ae af:Int) (ag ah:Int) (aa:ByteArray) (a:List XPred) (ai:Int) (ab:List Int) (aj:aa.size≤1048576) (ak:a.length≤1048576) (al:XPred.sms a) (am:ab.length≤1048576):Gw TT 155 [.st [.ro false (di ac),.ro false (di ad),.ro false (di ae),.ro false (di af),.ro false (di ag),.ro false (di ah),.ro false (.str aa),.ro k0 (.sl 7 (a.map XPred.e)),.ro false (di ai),.ro k0 (.sl 1 (ab.map ei))],.st [.ro false (di ac),.ro false (di ad),.ro false (di ae),.ro false (di af),.ro false (di ag),.ro false (di ah),.ro false (.str aa),.ro k1 (.sl 7 (a.map XPred.e)),.ro false (di ai),.ro k1 (.sl 1 (ab.map ei))]] = some (vb true,[]):=by
 refine Ga pf155 pb155 ?_
 unfold pb155
 refine Ua (J4 aj ak al am) ?_
 all_goals simp [pf155]

@[simp] theorem t250 (k0:Bool) (a:List XRow) (x_N:Int) (aa:Bool) (ab ac:Int) (ad:ByteArray) (ae:a.length≤1048576) (af:XRow.sms a):Gw TT 250 [.st [.ro k0 (.sl 2 (a.map XRow.e)),.ro false (di x_N),.ro false (.bool aa),.ro false (di ab),.ro false (di ac),.ro false (.str ad)]] = some (.st [.own (.sl 2 (a.map XRow.e)),.ro false (di x_N),.ro false (.bool aa),.ro false (di ab),.ro false (di ac),.ro false (.str ad)],[]):=by
 refine Ga pf250 pb250 ?_
 unfold pb250
 refine Ua (J2 ae af) ?_
 all_goals simp [pf250]

@[simp] theorem t158 (k0 k1:Bool) (a:List XRow) (x_N:Int) (aa:Bool) (ab ac:Int) (ad:ByteArray) (ae:a.length≤1048576) (af:XRow.sms a):Gw TT 158 [.st [.ro k0 (.sl 2 (a.map XRow.e)),.ro false (di x_N),.ro false (.bool aa),.ro false (di ab),.ro false (di ac),.ro false (.str ad)],.st [.ro k1 (.sl 2 (a.map XRow.e)),.ro false (di x_N),.ro false (.bool aa),.ro false (di ab),.ro false (di ac),.ro false (.str ad)]] = some (vb true,[]):=by
 refine Ga pf158 pb158 ?_
 unfold pb158
 refine Ua (J2 ae af) ?_
 all_goals simp [pf158]

@[simp] theorem t255 (k0:Bool) (ad ae x_H:Int) (x_R:List XVal) (af ag:Int) (ah ai:Int) (aj ak al:Int) (ab:ByteArray) (a:List XPred) (am:Int) (ac:List Int) (an ao:Int) (x_L:List XRef) (x_I x_J:Int) (x_S ap aq:Int) (ar:Bool) (aa:List XRow) (au:x_R.length≤1048576) (av:XVal.sms x_R) (aw:ab.size≤1048576) (ax:a.length≤1048576) (ay:XPred.sms a) (az:ac.length≤1048576) (aA:x_L.length≤1048576) (aB:aa.length≤1048576) (aC:XRow.sms aa):Gw TT 255 [.st [.ro false (di ad),.ro false (di ae),.ro false (di x_H),.ro k0 (.sl 3 (x_R.map XVal.e)),.ro false (di af),.ro false (di ag),.ro false (di ah),.ro false (di ai),.ro false (di aj),.ro false (di ak),.ro false (di al),.ro false (.str ab),.ro k0 (.sl 7 (a.map XPred.e)),.ro false (di am),.ro k0 (.sl 1 (ac.map ei)),.ro false (di an),.ro false (di ao),.ro k0 (.sl 5 (x_L.map XRef.e)),.ro false (di x_I),.ro false (di x_J),.ro false (di x_S),.ro false (di ap),.ro false (di aq),.ro false (.bool ar),.ro k0 (.sl 2 (aa.map XRow.e))]] = some (.st [.ro false (di ad),.ro false (di ae),.ro false (di x_H),.own (.sl 3 (x_R.map XVal.e)),.ro false (di af),.ro false (di ag),.ro false (di ah),.ro false (di ai),.ro false (di aj),.ro false (di ak),.ro false (di al),.ro false (.str ab),.own (.sl 7 (a.map XPred.e)),.ro false (di am),.own (.sl 1 (ac.map ei)),.ro false (di an),.ro false (di ao),.own (.sl 5 (x_L.map XRef.e)),.ro false (di x_I),.ro false (di x_J),.ro false (di x_S),.ro false (di ap),.ro false (di aq),.ro false (.bool ar),.own (.sl 2 (aa.map XRow.e))],[]):=by
 refine Ga pf255 pb255 ?_
 unfold pb255
 refine Ua (J8 au av aw ax ay az aA (J2 aB aC)) ?_
 all_goals simp [pf255]

@[simp] theorem t256 (k0:Bool) (l:List XTask) (h:l.length≤1048576) (hs:XTask.sms l):Gw TT 256 [.one (.ro k0 (.sl 25 (l.map XTask.e)))] = some (.one (.own (.sl 25 (l.map XTask.e))),[]):=by
 refine Ga pf256 pb256 ?_
 unfold pb256
 refine Ud Oo ?_
 repeat intro hc
 ·refine wp_loopI (σ:=List XTask × List XTask) (fun s => [(0,AV.v k0 (D.sl 25 (List.map XTask.e l)),none),(3,AV.pl 3 0 [],some (Rt.vir [C.own (D.sl 25 (s.1.map XTask.e ++ List.replicate s.2.length [.int .i64 0,.int .i64 0,.int .i64 0,.sl 3 [],.int .i64 0,.int .i64 0,.int .i64 0,.int .i64 0,.int .i64 0,.int .i64 0,.int .i64 0,.str ⟨#[]⟩,.sl 7 [],.int .i64 0,.sl 1 [],.int .i64 0,.int .i64 0,.sl 5 [],.int .i64 0,.int .i64 0,.int .i64 0,.int .i64 0,.int .i64 0,.bool false,.sl 2 []]))])),(4,AV.v false (di (s.1.length:Nat)),none)]) (fun s => l = s.1 ++ s.2) (fun s => s.2.length) ([],l) (by simp) rfl ?_
  rintro ⟨pre,rest⟩ h1
  simp only at h1
  subst h1
  simp only [List.length_append,List.length_cons] at h
  rcases rest with _ | ⟨⟨a,aa,y_H,y_R,ab,⟨ac,⟨ad,ae,af,⟨ag,ah,ai⟩,aj⟩,ak,al⟩,am,an,y_L,y_I,y_J,y_S,ao,ap,aq,ar⟩,rest⟩
  ·unfold pl256_0
   refine Ud Oo ?_
   all_goals simp [pf256]
  ·unfold pl256_0
   simp only [List.length_cons] at h
   have hw:=Wi ((pre.length:Int) + 1)
   have hd:=hs ⟨a,aa,y_H,y_R,ab,⟨ac,⟨ad,ae,af,⟨ag,ah,ai⟩,aj⟩,ak,al⟩,am,an,y_L,y_I,y_J,y_S,ao,ap,aq,ar⟩ (by simp)
   simp only [XTask.sm,XQuery.sm,XPred.sm_eq,XVal.sm,and_assoc] at hd
   obtain ⟨au,av,aw,ax,ay,az,aA,aB,aC⟩:=hd
   refine Ud (J8 @repS hw au av aw ax ay (J4 az aA aB aC)) ?_
   repeat intro hc
   all_goals exact ⟨(pre ++ [⟨a,aa,y_H,y_R,ab,⟨ac,⟨ad,ae,af,⟨ag,ah,ai⟩,aj⟩,ak,al⟩,am,an,y_L,y_I,y_J,y_S,ao,ap,aq,ar⟩],rest),by simp,by simp,by simp⟩

@[simp] theorem t163 (k0 k1:Bool) (ad ae x_H:Int) (x_R:List XVal) (af ag:Int) (ah ai:Int) (aj ak al:Int) (ab:ByteArray) (a:List XPred) (am:Int) (ac:List Int) (an ao:Int) (x_L:List XRef) (x_I x_J:Int) (x_S ap aq:Int) (ar:Bool) (aa:List XRow) (au:x_R.length≤1048576) (av:XVal.sms x_R) (aw:ab.size≤1048576) (ax:a.length≤1048576) (ay:XPred.sms a) (az:ac.length≤1048576) (aA:x_L.length≤1048576) (aB:aa.length≤1048576) (aC:XRow.sms aa):Gw TT 163 [.st [.ro false (di ad),.ro false (di ae),.ro false (di x_H),.ro k0 (.sl 3 (x_R.map XVal.e)),.ro false (di af),.ro false (di ag),.ro false (di ah),.ro false (di ai),.ro false (di aj),.ro false (di ak),.ro false (di al),.ro false (.str ab),.ro k0 (.sl 7 (a.map XPred.e)),.ro false (di am),.ro k0 (.sl 1 (ac.map ei)),.ro false (di an),.ro false (di ao),.ro k0 (.sl 5 (x_L.map XRef.e)),.ro false (di x_I),.ro false (di x_J),.ro false (di x_S),.ro false (di ap),.ro false (di aq),.ro false (.bool ar),.ro k0 (.sl 2 (aa.map XRow.e))],.st [.ro false (di ad),.ro false (di ae),.ro false (di x_H),.ro k1 (.sl 3 (x_R.map XVal.e)),.ro false (di af),.ro false (di ag),.ro false (di ah),.ro false (di ai),.ro false (di aj),.ro false (di ak),.ro false (di al),.ro false (.str ab),.ro k1 (.sl 7 (a.map XPred.e)),.ro false (di am),.ro k1 (.sl 1 (ac.map ei)),.ro false (di an),.ro false (di ao),.ro k1 (.sl 5 (x_L.map XRef.e)),.ro false (di x_I),.ro false (di x_J),.ro false (di x_S),.ro false (di ap),.ro false (di aq),.ro false (.bool ar),.ro k1 (.sl 2 (aa.map XRow.e))]] = some (vb true,[]):=by
 refine Ga pf163 pb163 ?_
 unfold pb163
 refine Ua (J8 au av aw ax ay az aA (J2 aB aC)) ?_
 all_goals simp [pf163]

@[simp] theorem t164 (k0 k1:Bool) (l:List XTask) (h:l.length≤1048576) (hs:XTask.sms l):Gw TT 164 [.one (.ro k0 (.sl 25 (l.map XTask.e))),.one (.ro k1 (.sl 25 (l.map XTask.e)))] = some (vb true,[]):=by
 refine Ga pf164 pb164 ?_
 unfold pb164
 refine Ud Oo ?_
 ·refine wp_loopI (σ:=List XTask × List XTask) (fun s => [(0,AV.v k0 (D.sl 25 (List.map XTask.e l)),none),(1,AV.v k1 (D.sl 25 (List.map XTask.e l)),none),(5,AV.v false (di (s.1.length:Nat)),none)]) (fun s => l = s.1 ++ s.2) (fun s => s.2.length) ([],l) (by simp) rfl ?_
  rintro ⟨pre,rest⟩ h1
  simp only at h1
  subst h1
  simp only [List.length_append,List.length_cons] at h
  rcases rest with _ | ⟨⟨a,aa,y_H,y_R,ab,⟨ac,⟨ad,ae,af,⟨ag,ah,ai⟩,aj⟩,ak,al⟩,am,an,y_L,y_I,y_J,y_S,ao,ap,aq,ar⟩,rest⟩
  ·unfold pl164_0
   refine Ud Oo ?_
   all_goals simp [pf164]
  ·unfold pl164_0
   simp only [List.length_cons] at h
   have hw:=Wi ((pre.length:Int) + 1)
   have hd:=hs ⟨a,aa,y_H,y_R,ab,⟨ac,⟨ad,ae,af,⟨ag,ah,ai⟩,aj⟩,ak,al⟩,am,an,y_L,y_I,y_J,y_S,ao,ap,aq,ar⟩ (by simp)
   simp only [XTask.sm,XQuery.sm,XPred.sm_eq,XVal.sm,and_assoc] at hd
   obtain ⟨au,av,aw,ax,ay,az,aA,aB,aC⟩:=hd
   refine Ud (J8 hw au av aw ax ay az (J3 aA aB aC)) ?_
   repeat intro hc
   all_goals exact ⟨(pre ++ [⟨a,aa,y_H,y_R,ab,⟨ac,⟨ad,ae,af,⟨ag,ah,ai⟩,aj⟩,ak,al⟩,am,an,y_L,y_I,y_J,y_S,ao,ap,aq,ar⟩],rest),by simp,by simp,by simp⟩

@[simp] theorem t241 (k0:Bool) (ae af:Int) (x_R:List XVal) (ag ah:Int) (ai aj:Int) (ak al am:Int) (ab:ByteArray) (a:List XPred) (an:Int) (ac:List Int) (aa:List XRow) (ao:Int) (ap:Bool) (aq ar:Int) (ad:ByteArray) (au av:Int) (aw ax ay:Int) (az:x_R.length≤1048576) (aA:XVal.sms x_R) (aB:ab.size≤1048576) (aC:a.length≤1048576) (aD:XPred.sms a) (aE:ac.length≤1048576) (aF:aa.length≤1048576) (aG:XRow.sms aa) (aH:ad.size≤1048576):Gw TT 241 [.st [.ro false (di ae),.ro false (di af),.ro k0 (.sl 3 (x_R.map XVal.e)),.ro false (di ag),.ro false (di ah),.ro false (di ai),.ro false (di aj),.ro false (di ak),.ro false (di al),.ro false (di am),.ro false (.str ab),.ro k0 (.sl 7 (a.map XPred.e)),.ro false (di an),.ro k0 (.sl 1 (ac.map ei)),.ro k0 (.sl 2 (aa.map XRow.e)),.ro false (di ao),.ro false (.bool ap),.ro false (di aq),.ro false (di ar),.ro false (.str ad),.ro false (di au),.ro false (di av),.ro false (di aw),.ro false (di ax),.ro false (di ay)]] = some (.st [.ro false (di ae),.ro false (di af),.own (.sl 3 (x_R.map XVal.e)),.ro false (di ag),.ro false (di ah),.ro false (di ai),.ro false (di aj),.ro false (di ak),.ro false (di al),.ro false (di am),.ro false (.str ab),.own (.sl 7 (a.map XPred.e)),.ro false (di an),.own (.sl 1 (ac.map ei)),.own (.sl 2 (aa.map XRow.e)),.ro false (di ao),.ro false (.bool ap),.ro false (di aq),.ro false (di ar),.ro false (.str ad),.ro false (di au),.ro false (di av),.ro false (di aw),.ro false (di ax),.ro false (di ay)],[]):=by
 refine Ga pf241 pb241 ?_
 unfold pb241
 refine Ua (J8 az aA aB aC aD aE aF (J2 aG aH)) ?_
 all_goals simp [pf241]

@[simp] theorem t242 (k0:Bool) (l:List XDeed) (h:l.length≤1048576) (hs:XDeed.sms l):Gw TT 242 [.one (.ro k0 (.sl 25 (l.map XDeed.e)))] = some (.one (.own (.sl 25 (l.map XDeed.e))),[]):=by
 refine Ga pf242 pb242 ?_
 unfold pb242
 refine Ud Oo ?_
 repeat intro hc
 ·refine wp_loopI (σ:=List XDeed × List XDeed) (fun s => [(0,AV.v k0 (D.sl 25 (List.map XDeed.e l)),none),(3,AV.pl 3 0 [],some (Rt.vir [C.own (D.sl 25 (s.1.map XDeed.e ++ List.replicate s.2.length [.int .i64 0,.int .i64 0,.sl 3 [],.int .i64 0,.int .i64 0,.int .i64 0,.int .i64 0,.int .i64 0,.int .i64 0,.int .i64 0,.str ⟨#[]⟩,.sl 7 [],.int .i64 0,.sl 1 [],.sl 2 [],.int .i64 0,.bool false,.int .i64 0,.int .i64 0,.str ⟨#[]⟩,.int .i64 0,.int .i64 0,.int .i64 0,.int .i64 0,.int .i64 0]))])),(4,AV.v false (di (s.1.length:Nat)),none)]) (fun s => l = s.1 ++ s.2) (fun s => s.2.length) ([],l) (by simp) rfl ?_
  rintro ⟨pre,rest⟩ h1
  simp only at h1
  subst h1
  simp only [List.length_append,List.length_cons] at h
  rcases rest with _ | ⟨⟨a,aa,y_R,ab,⟨ac,⟨ad,ae,af,⟨ag,ah,ai⟩,aj⟩,ak,al⟩,⟨am,an,ao,⟨ap,aq,ar⟩⟩,au,av,aw,ax,ay⟩,rest⟩
  ·unfold pl242_0
   refine Ud Oo ?_
   all_goals simp [pf242]
  ·unfold pl242_0
   simp only [List.length_cons] at h
   have hw:=Wi ((pre.length:Int) + 1)
   have hd:=hs ⟨a,aa,y_R,ab,⟨ac,⟨ad,ae,af,⟨ag,ah,ai⟩,aj⟩,ak,al⟩,⟨am,an,ao,⟨ap,aq,ar⟩⟩,au,av,aw,ax,ay⟩ (by simp)
   simp only [XDeed.sm,XQuery.sm,XPred.sm_eq,XVal.sm,XResult.sm,and_assoc] at hd
   obtain ⟨az,aA,aB,aC,aD,aE,aF,aG,aH⟩:=hd
   refine Ud (J8 @repS hw az aA aB aC aD (J4 aE aF aG aH)) ?_
   repeat intro hc
   all_goals exact ⟨(pre ++ [⟨a,aa,y_R,ab,⟨ac,⟨ad,ae,af,⟨ag,ah,ai⟩,aj⟩,ak,al⟩,⟨am,an,ao,⟨ap,aq,ar⟩⟩,au,av,aw,ax,ay⟩],rest),by simp,by simp,by simp⟩

@[simp] theorem t149 (k0 k1:Bool) (ae af:Int) (x_R:List XVal) (ag ah:Int) (ai aj:Int) (ak al am:Int) (ab:ByteArray) (a:List XPred) (an:Int) (ac:List Int) (aa:List XRow) (ao:Int) (ap:Bool) (aq ar:Int) (ad:ByteArray) (au av:Int) (aw ax ay:Int) (az:x_R.length≤1048576) (aA:XVal.sms x_R) (aB:ab.size≤1048576) (aC:a.length≤1048576) (aD:XPred.sms a) (aE:ac.length≤1048576) (aF:aa.length≤1048576) (aG:XRow.sms aa) (aH:ad.size≤1048576):Gw TT 149 [.st [.ro false (di ae),.ro false (di af),.ro k0 (.sl 3 (x_R.map XVal.e)),.ro false (di ag),.ro false (di ah),.ro false (di ai),.ro false (di aj),.ro false (di ak),.ro false (di al),.ro false (di am),.ro false (.str ab),.ro k0 (.sl 7 (a.map XPred.e)),.ro false (di an),.ro k0 (.sl 1 (ac.map ei)),.ro k0 (.sl 2 (aa.map XRow.e)),.ro false (di ao),.ro false (.bool ap),.ro false (di aq),.ro false (di ar),.ro false (.str ad),.ro false (di au),.ro false (di av),.ro false (di aw),.ro false (di ax),.ro false (di ay)],.st [.ro false (di ae),.ro false (di af),.ro k1 (.sl 3 (x_R.map XVal.e)),.ro false (di ag),.ro false (di ah),.ro false (di ai),.ro false (di aj),.ro false (di ak),.ro false (di al),.ro false (di am),.ro false (.str ab),.ro k1 (.sl 7 (a.map XPred.e)),.ro false (di an),.ro k1 (.sl 1 (ac.map ei)),.ro k1 (.sl 2 (aa.map XRow.e)),.ro false (di ao),.ro false (.bool ap),.ro false (di aq),.ro false (di ar),.ro false (.str ad),.ro false (di au),.ro false (di av),.ro false (di aw),.ro false (di ax),.ro false (di ay)]] = some (vb true,[]):=by
 refine Ga pf149 pb149 ?_
 unfold pb149
 refine Ua (J8 az aA aB aC aD aE aF (J2 aG aH)) ?_
 all_goals simp [pf149]

@[simp] theorem t150 (k0 k1:Bool) (l:List XDeed) (h:l.length≤1048576) (hs:XDeed.sms l):Gw TT 150 [.one (.ro k0 (.sl 25 (l.map XDeed.e))),.one (.ro k1 (.sl 25 (l.map XDeed.e)))] = some (vb true,[]):=by
 refine Ga pf150 pb150 ?_
 unfold pb150
 refine Ud Oo ?_
 ·refine wp_loopI (σ:=List XDeed × List XDeed) (fun s => [(0,AV.v k0 (D.sl 25 (List.map XDeed.e l)),none),(1,AV.v k1 (D.sl 25 (List.map XDeed.e l)),none),(5,AV.v false (di (s.1.length:Nat)),none)]) (fun s => l = s.1 ++ s.2) (fun s => s.2.length) ([],l) (by simp) rfl ?_
  rintro ⟨pre,rest⟩ h1
  simp only at h1
  subst h1
  simp only [List.length_append,List.length_cons] at h
  rcases rest with _ | ⟨⟨a,aa,y_R,ab,⟨ac,⟨ad,ae,af,⟨ag,ah,ai⟩,aj⟩,ak,al⟩,⟨am,an,ao,⟨ap,aq,ar⟩⟩,au,av,aw,ax,ay⟩,rest⟩
  ·unfold pl150_0
   refine Ud Oo ?_
   all_goals simp [pf150]
  ·unfold pl150_0
   simp only [List.length_cons] at h
   have hw:=Wi ((pre.length:Int) + 1)
   have hd:=hs ⟨a,aa,y_R,ab,⟨ac,⟨ad,ae,af,⟨ag,ah,ai⟩,aj⟩,ak,al⟩,⟨am,an,ao,⟨ap,aq,ar⟩⟩,au,av,aw,ax,ay⟩ (by simp)
   simp only [XDeed.sm,XQuery.sm,XPred.sm_eq,XVal.sm,XResult.sm,and_assoc] at hd
   obtain ⟨az,aA,aB,aC,aD,aE,aF,aG,aH⟩:=hd
   refine Ud (J8 hw az aA aB aC aD aE (J3 aF aG aH)) ?_
   repeat intro hc
   all_goals exact ⟨(pre ++ [⟨a,aa,y_R,ab,⟨ac,⟨ad,ae,af,⟨ag,ah,ai⟩,aj⟩,ak,al⟩,⟨am,an,ao,⟨ap,aq,ar⟩⟩,au,av,aw,ax,ay⟩],rest),by simp,by simp,by simp⟩

@[simp] theorem t259 (k0:Bool) (ab:List Int) (ad ae:Int) (af x_T:Int) (x_E ag:Int) (ac:List XRef) (x_B:List XBuf) (x_M:List Int) (x_X:List XDead) (x_P:List Int) (a:List XTask) (aa:List XDeed) (ah:ab.length≤1048576) (ai:ac.length≤1048576) (aj:x_B.length≤1048576) (ak:XBuf.sms x_B) (al:x_M.length≤1048576) (am:x_X.length≤1048576) (an:x_P.length≤1048576) (ao:a.length≤1048576) (ap:XTask.sms a) (aq:aa.length≤1048576) (ar:XDeed.sms aa):Gw TT 259 [.st [.ro k0 (.sl 1 (ab.map ei)),.ro false (di ad),.ro false (di ae),.ro false (di af),.ro false (di x_T),.ro false (di x_E),.ro false (di ag),.ro k0 (.sl 5 (ac.map XRef.e)),.ro k0 (.sl 5 (x_B.map XBuf.e)),.ro k0 (.sl 1 (x_M.map ei)),.ro k0 (.sl 3 (x_X.map XDead.e)),.ro k0 (.sl 1 (x_P.map ei)),.ro k0 (.sl 25 (a.map XTask.e)),.ro k0 (.sl 25 (aa.map XDeed.e))]] = some (.st [.own (.sl 1 (ab.map ei)),.ro false (di ad),.ro false (di ae),.ro false (di af),.ro false (di x_T),.ro false (di x_E),.ro false (di ag),.own (.sl 5 (ac.map XRef.e)),.own (.sl 5 (x_B.map XBuf.e)),.own (.sl 1 (x_M.map ei)),.own (.sl 3 (x_X.map XDead.e)),.own (.sl 1 (x_P.map ei)),.own (.sl 25 (a.map XTask.e)),.own (.sl 25 (aa.map XDeed.e))],[]):=by
 refine Ga pf259 pb259 ?_
 unfold pb259
 refine Ua (J8 ah ai aj ak al am an (J4 ao ap aq ar)) ?_
 all_goals simp [pf259]

@[simp] theorem t167 (k0 k1:Bool) (ab:List Int) (ad ae:Int) (af x_T:Int) (x_E ag:Int) (ac:List XRef) (x_B:List XBuf) (x_M:List Int) (x_X:List XDead) (x_P:List Int) (a:List XTask) (aa:List XDeed) (ah:ab.length≤1048576) (ai:ac.length≤1048576) (aj:x_B.length≤1048576) (ak:XBuf.sms x_B) (al:x_M.length≤1048576) (am:x_X.length≤1048576) (an:x_P.length≤1048576) (ao:a.length≤1048576) (ap:XTask.sms a) (aq:aa.length≤1048576) (ar:XDeed.sms aa):Gw TT 167 [.st [.ro k0 (.sl 1 (ab.map ei)),.ro false (di ad),.ro false (di ae),.ro false (di af),.ro false (di x_T),.ro false (di x_E),.ro false (di ag),.ro k0 (.sl 5 (ac.map XRef.e)),.ro k0 (.sl 5 (x_B.map XBuf.e)),.ro k0 (.sl 1 (x_M.map ei)),.ro k0 (.sl 3 (x_X.map XDead.e)),.ro k0 (.sl 1 (x_P.map ei)),.ro k0 (.sl 25 (a.map XTask.e)),.ro k0 (.sl 25 (aa.map XDeed.e))],.st [.ro k1 (.sl 1 (ab.map ei)),.ro false (di ad),.ro false (di ae),.ro false (di af),.ro false (di x_T),.ro false (di x_E),.ro false (di ag),.ro k1 (.sl 5 (ac.map XRef.e)),.ro k1 (.sl 5 (x_B.map XBuf.e)),.ro k1 (.sl 1 (x_M.map ei)),.ro k1 (.sl 3 (x_X.map XDead.e)),.ro k1 (.sl 1 (x_P.map ei)),.ro k1 (.sl 25 (a.map XTask.e)),.ro k1 (.sl 25 (aa.map XDeed.e))]] = some (vb true,[]):=by
 refine Ga pf167 pb167 ?_
 unfold pb167
 refine Ua (J8 ah ai aj ak al am an (J4 ao ap aq ar)) ?_
 all_goals simp [pf167]

theorem t219 (k0:Bool) (l:List Int) (left:Int) (h0:0≤left) (h1:left≤1048576) (hl:l.length≤9223372036854775807) :
  ∃ n,Gw TT 219 [.one (.ro k0 (.sl 1 (l.map ei))),vi left] = some (vi n,[])∧-1≤n∧n≤left∧(0≤n→l.length≤1048576):=by
 refine Gw_ofI (F:=pf219) rfl rfl ?_
 show Wp _ pb219 _ _
 unfold pb219
 have g:=Wi (left - (l.length:Int))
 refine Uw g ?_ ?_
 all_goals repeat intro hc
 ·exact ⟨-1,by simp [pf219],by omega,by omega,fun h => absurd h (by omega)⟩
 ·exact ⟨left - (l.length:Int),by simp [pf219],by omega,by omega,fun _ => by omega⟩

theorem t212 (k0:Bool) (l:List Int) (left:Int) (h0:0≤left) (h1:left≤1048576) (hl:l.length≤9223372036854775807) :
  ∃ n,Gw TT 212 [.one (.ro k0 (.sl 1 (l.map eb))),vi left] = some (vi n,[])∧-1≤n∧n≤left∧(0≤n→l.length≤1048576):=by
 refine Gw_ofI (F:=pf212) rfl rfl ?_
 show Wp _ pb212 _ _
 unfold pb212
 have g:=Wi (left - (l.length:Int))
 refine Uw g ?_ ?_
 all_goals repeat intro hc
 ·exact ⟨-1,by simp [pf212],by omega,by omega,fun h => absurd h (by omega)⟩
 ·exact ⟨left - (l.length:Int),by simp [pf212],by omega,by omega,fun _ => by omega⟩

theorem t231 (a x_N:Int) (x_S:ByteArray) (left:Int) (h0:0≤left) (h1:left≤1048576) (aa:x_S.size≤9223372036854775807) :
  ∃ n,Gw TT 231 [.st [.ro false (di a),.ro false (di x_N),.ro false (.str x_S)],vi left] = some (vi n,[])∧-1≤n∧n≤left∧(0≤n→x_S.size≤1048576):=by
 refine Gw_ofI (F:=pf231) rfl rfl ?_
 show Wp _ pb231 _ _
 unfold pb231
 have g1:=Wi (left - (x_S.size:Int))
 refine Uw g1 ?_ ?_
 all_goals repeat intro hc
 ·exact ⟨-1,by simp [pf231],by omega,by omega,fun h => absurd h (by omega)⟩
 ·exact ⟨left - (x_S.size:Int),by simp [pf231],by omega,by omega,fun _ => (by omega)⟩

theorem t232 (k0:Bool) (l:List XVal) (left:Int) (h0:0≤left) (h1:left≤1048576) (hl:l.length≤9223372036854775807) (hok:XVal.oks l) :
  ∃ n,Gw TT 232 [.one (.ro k0 (.sl 3 (l.map XVal.e))),vi left] = some (vi n,[])∧-1≤n∧n≤left∧(0≤n→l.length≤1048576∧XVal.sms l):=by
 refine Gw_ofI (F:=pf232) rfl rfl ?_
 show Wp _ pb232 _ _
 unfold pb232
 have g:=Wi (left - (l.length:Int))
 refine Ud g ?_ ?_
 all_goals repeat intro hc
 ·exact ⟨-1,by simp [pf232],by omega,by omega,fun h => absurd h (by omega)⟩
 ·refine wp_loopI (σ:=List XVal × List XVal × Int) (fun s => [(0,AV.v k0 (D.sl 3 (List.map XVal.e l)),none),(1,AV.v false (di s.2.2),none),(5,AV.v false (di (s.1.length:Nat)),none)]) (fun s => l = s.1 ++ s.2.1∧0≤s.2.2∧s.2.2≤left - (l.length:Int)∧XVal.sms s.1) (fun s => s.2.1.length) ([],l,left - (l.length:Int)) (by simp) ⟨rfl,by simp only; omega,by simp only; omega,fun y hy => by simp at hy⟩ ?_
  rintro ⟨pre,rest,lf⟩ ⟨h2,h3,h4,h5⟩
  simp only at h2 h3 h4 h5
  subst h2
  simp only [List.length_append,List.length_cons] at hl h4 g
  rcases rest with _ | ⟨⟨a,y_N,y_S⟩,rest⟩
  ·unfold pl232_0
   refine Ud Oo ?_
   simp only [List.length_nil] at h4
   all_goals exact ⟨lf,by simp [pf232],by omega,by omega,fun _ => ⟨by simp; omega,by simpa using h5⟩⟩
  ·unfold pl232_0
   simp only [List.length_cons] at hl h4
   have hw:=Wi ((pre.length:Int) + 1)
   have hd:=hok ⟨a,y_N,y_S⟩ (by simp)
   simp only [XVal.ok,and_assoc] at hd
   obtain ⟨ab,ac,ad,ae,aa⟩:=hd
   obtain ⟨n1,g1,a1,b1,s1⟩:=t231 a y_N y_S lf (by omega) (by omega) aa
   refine Ud (J2 g1 hw) ?_ ?_
   all_goals repeat intro hc
   ·exact ⟨-1,by simp [pf232],by omega,by omega,fun h => absurd h (by omega)⟩
   ·exact ⟨(pre ++ [⟨a,y_N,y_S⟩],rest,n1),by simp,⟨by simp,by simp only; omega,by simp only [List.length_append,List.length_cons]; omega,fun y hy => by
     rcases List.mem_append.1 hy with hy | hy
     ·exact h5 y hy
     ·rw [List.mem_singleton.1 hy]
      simp only [XVal.sm,and_assoc]
      exact s1 (by omega)⟩,by simp⟩

theorem t225 (k0:Bool) (a:Int) (x_L:List XVal) (left:Int) (h0:0≤left) (h1:left≤1048576) (aa:x_L.length≤9223372036854775807) (ab:XVal.oks x_L) :
  ∃ n,Gw TT 225 [.st [.ro false (di a),.ro k0 (.sl 3 (x_L.map XVal.e))],vi left] = some (vi n,[])∧-1≤n∧n≤left∧(0≤n→x_L.length≤1048576∧XVal.sms x_L):=by
 refine Gw_ofI (F:=pf225) rfl rfl ?_
 show Wp _ pb225 _ _
 unfold pb225
 obtain ⟨n1,g1,a1,b1,s1⟩:=t232 k0 x_L left (by omega) (by omega) aa ab
 refine Uw g1 ?_ ?_
 all_goals repeat intro hc
 ·exact ⟨-1,by simp [pf225],by omega,by omega,fun h => absurd h (by omega)⟩
 ·exact ⟨n1,by simp [pf225],by omega,by omega,fun _ => ⟨(s1 (by omega)).1,(s1 (by omega)).2⟩⟩

theorem t226 (k0:Bool) (l:List XRow) (left:Int) (h0:0≤left) (h1:left≤1048576) (hl:l.length≤9223372036854775807) (hok:XRow.oks l) :
  ∃ n,Gw TT 226 [.one (.ro k0 (.sl 2 (l.map XRow.e))),vi left] = some (vi n,[])∧-1≤n∧n≤left∧(0≤n→l.length≤1048576∧XRow.sms l):=by
 refine Gw_ofI (F:=pf226) rfl rfl ?_
 show Wp _ pb226 _ _
 unfold pb226
 have g:=Wi (left - (l.length:Int))
 refine Ud g ?_ ?_
 all_goals repeat intro hc
 ·exact ⟨-1,by simp [pf226],by omega,by omega,fun h => absurd h (by omega)⟩
 ·refine wp_loopI (σ:=List XRow × List XRow × Int) (fun s => [(0,AV.v k0 (D.sl 2 (List.map XRow.e l)),none),(1,AV.v false (di s.2.2),none),(5,AV.v false (di (s.1.length:Nat)),none)]) (fun s => l = s.1 ++ s.2.1∧0≤s.2.2∧s.2.2≤left - (l.length:Int)∧XRow.sms s.1) (fun s => s.2.1.length) ([],l,left - (l.length:Int)) (by simp) ⟨rfl,by simp only; omega,by simp only; omega,fun y hy => by simp at hy⟩ ?_
  rintro ⟨pre,rest,lf⟩ ⟨h2,h3,h4,h5⟩
  simp only at h2 h3 h4 h5
  subst h2
  simp only [List.length_append,List.length_cons] at hl h4 g
  rcases rest with _ | ⟨⟨a,y_L⟩,rest⟩
  ·unfold pl226_0
   refine Ud Oo ?_
   simp only [List.length_nil] at h4
   all_goals exact ⟨lf,by simp [pf226],by omega,by omega,fun _ => ⟨by simp; omega,by simpa using h5⟩⟩
  ·unfold pl226_0
   simp only [List.length_cons] at hl h4
   have hw:=Wi ((pre.length:Int) + 1)
   have hd:=hok ⟨a,y_L⟩ (by simp)
   simp only [XRow.ok,and_assoc] at hd
   obtain ⟨ac,ad,aa,ab⟩:=hd
   obtain ⟨n1,g1,a1,b1,s1⟩:=t225 k0 a y_L lf (by omega) (by omega) aa ab
   refine Ud (J2 g1 hw) ?_ ?_
   all_goals repeat intro hc
   ·exact ⟨-1,by simp [pf226],by omega,by omega,fun h => absurd h (by omega)⟩
   ·exact ⟨(pre ++ [⟨a,y_L⟩],rest,n1),by simp,⟨by simp,by simp only; omega,by simp only [List.length_append,List.length_cons]; omega,fun y hy => by
     rcases List.mem_append.1 hy with hy | hy
     ·exact h5 y hy
     ·rw [List.mem_singleton.1 hy]
      simp only [XRow.sm,and_assoc]
      exact s1 (by omega)⟩,by simp⟩

theorem t215 (k0:Bool) (l:List XDead) (left:Int) (h0:0≤left) (h1:left≤1048576) (hl:l.length≤9223372036854775807) :
  ∃ n,Gw TT 215 [.one (.ro k0 (.sl 3 (l.map XDead.e))),vi left] = some (vi n,[])∧-1≤n∧n≤left∧(0≤n→l.length≤1048576):=by
 refine Gw_ofI (F:=pf215) rfl rfl ?_
 show Wp _ pb215 _ _
 unfold pb215
 have g:=Wi (left - (l.length:Int))
 refine Uw g ?_ ?_
 all_goals repeat intro hc
 ·exact ⟨-1,by simp [pf215],by omega,by omega,fun h => absurd h (by omega)⟩
 ·exact ⟨left - (l.length:Int),by simp [pf215],by omega,by omega,fun _ => by omega⟩

theorem t223 (k0:Bool) (l:List XRef) (left:Int) (h0:0≤left) (h1:left≤1048576) (hl:l.length≤9223372036854775807) :
  ∃ n,Gw TT 223 [.one (.ro k0 (.sl 5 (l.map XRef.e))),vi left] = some (vi n,[])∧-1≤n∧n≤left∧(0≤n→l.length≤1048576):=by
 refine Gw_ofI (F:=pf223) rfl rfl ?_
 show Wp _ pb223 _ _
 unfold pb223
 have g:=Wi (left - (l.length:Int))
 refine Uw g ?_ ?_
 all_goals repeat intro hc
 ·exact ⟨-1,by simp [pf223],by omega,by omega,fun h => absurd h (by omega)⟩
 ·exact ⟨left - (l.length:Int),by simp [pf223],by omega,by omega,fun _ => by omega⟩

theorem t218 (k0:Bool) (a:Int) (x_L:List XRef) (left:Int) (h0:0≤left) (h1:left≤1048576) (aa:x_L.length≤9223372036854775807) :
  ∃ n,Gw TT 218 [.st [.ro false (di a),.ro k0 (.sl 5 (x_L.map XRef.e))],vi left] = some (vi n,[])∧-1≤n∧n≤left∧(0≤n→x_L.length≤1048576):=by
 refine Gw_ofI (F:=pf218) rfl rfl ?_
 show Wp _ pb218 _ _
 unfold pb218
 obtain ⟨n1,g1,a1,b1,s1⟩:=t223 k0 x_L left (by omega) (by omega) aa
 refine Uw g1 ?_ ?_
 all_goals repeat intro hc
 ·exact ⟨-1,by simp [pf218],by omega,by omega,fun h => absurd h (by omega)⟩
 ·exact ⟨n1,by simp [pf218],by omega,by omega,fun _ => (s1 (by omega))⟩

theorem t227 (k0:Bool) (a:Int) (x_L:List XVal) (left:Int) (h0:0≤left) (h1:left≤1048576) (aa:x_L.length≤9223372036854775807) (ab:XVal.oks x_L) :
  ∃ n,Gw TT 227 [.st [.ro false (di a),.ro k0 (.sl 3 (x_L.map XVal.e))],vi left] = some (vi n,[])∧-1≤n∧n≤left∧(0≤n→x_L.length≤1048576∧XVal.sms x_L):=by
 refine Gw_ofI (F:=pf227) rfl rfl ?_
 show Wp _ pb227 _ _
 unfold pb227
 obtain ⟨n1,g1,a1,b1,s1⟩:=t232 k0 x_L left (by omega) (by omega) aa ab
 refine Uw g1 ?_ ?_
 all_goals repeat intro hc
 ·exact ⟨-1,by simp [pf227],by omega,by omega,fun h => absurd h (by omega)⟩
 ·exact ⟨n1,by simp [pf227],by omega,by omega,fun _ => ⟨(s1 (by omega)).1,(s1 (by omega)).2⟩⟩

theorem t228 (k0:Bool) (l:List XSlot) (left:Int) (h0:0≤left) (h1:left≤1048576) (hl:l.length≤9223372036854775807) (hok:XSlot.oks l) :
  ∃ n,Gw TT 228 [.one (.ro k0 (.sl 2 (l.map XSlot.e))),vi left] = some (vi n,[])∧-1≤n∧n≤left∧(0≤n→l.length≤1048576∧XSlot.sms l):=by
 refine Gw_ofI (F:=pf228) rfl rfl ?_
 show Wp _ pb228 _ _
 unfold pb228
 have g:=Wi (left - (l.length:Int))
 refine Ud g ?_ ?_
 all_goals repeat intro hc
 ·exact ⟨-1,by simp [pf228],by omega,by omega,fun h => absurd h (by omega)⟩
 ·refine wp_loopI (σ:=List XSlot × List XSlot × Int) (fun s => [(0,AV.v k0 (D.sl 2 (List.map XSlot.e l)),none),(1,AV.v false (di s.2.2),none),(5,AV.v false (di (s.1.length:Nat)),none)]) (fun s => l = s.1 ++ s.2.1∧0≤s.2.2∧s.2.2≤left - (l.length:Int)∧XSlot.sms s.1) (fun s => s.2.1.length) ([],l,left - (l.length:Int)) (by simp) ⟨rfl,by simp only; omega,by simp only; omega,fun y hy => by simp at hy⟩ ?_
  rintro ⟨pre,rest,lf⟩ ⟨h2,h3,h4,h5⟩
  simp only at h2 h3 h4 h5
  subst h2
  simp only [List.length_append,List.length_cons] at hl h4 g
  rcases rest with _ | ⟨⟨a,y_L⟩,rest⟩
  ·unfold pl228_0
   refine Ud Oo ?_
   simp only [List.length_nil] at h4
   all_goals exact ⟨lf,by simp [pf228],by omega,by omega,fun _ => ⟨by simp; omega,by simpa using h5⟩⟩
  ·unfold pl228_0
   simp only [List.length_cons] at hl h4
   have hw:=Wi ((pre.length:Int) + 1)
   have hd:=hok ⟨a,y_L⟩ (by simp)
   simp only [XSlot.ok,and_assoc] at hd
   obtain ⟨ac,ad,aa,ab⟩:=hd
   obtain ⟨n1,g1,a1,b1,s1⟩:=t227 k0 a y_L lf (by omega) (by omega) aa ab
   refine Ud (J2 g1 hw) ?_ ?_
   all_goals repeat intro hc
   ·exact ⟨-1,by simp [pf228],by omega,by omega,fun h => absurd h (by omega)⟩
   ·exact ⟨(pre ++ [⟨a,y_L⟩],rest,n1),by simp,⟨by simp,by simp only; omega,by simp only [List.length_append,List.length_cons]; omega,fun y hy => by
     rcases List.mem_append.1 hy with hy | hy
     ·exact h5 y hy
     ·rw [List.mem_singleton.1 hy]
      simp only [XSlot.sm,and_assoc]
      exact s1 (by omega)⟩,by simp⟩

theorem t213 (k0:Bool) (a:Int) (x_L:List XSlot) (left:Int) (h0:0≤left) (h1:left≤1048576) (aa:x_L.length≤9223372036854775807) (ab:XSlot.oks x_L) :
  ∃ n,Gw TT 213 [.st [.ro false (di a),.ro k0 (.sl 2 (x_L.map XSlot.e))],vi left] = some (vi n,[])∧-1≤n∧n≤left∧(0≤n→x_L.length≤1048576∧XSlot.sms x_L):=by
 refine Gw_ofI (F:=pf213) rfl rfl ?_
 show Wp _ pb213 _ _
 unfold pb213
 obtain ⟨n1,g1,a1,b1,s1⟩:=t228 k0 x_L left (by omega) (by omega) aa ab
 refine Uw g1 ?_ ?_
 all_goals repeat intro hc
 ·exact ⟨-1,by simp [pf213],by omega,by omega,fun h => absurd h (by omega)⟩
 ·exact ⟨n1,by simp [pf213],by omega,by omega,fun _ => ⟨(s1 (by omega)).1,(s1 (by omega)).2⟩⟩

theorem t210 (k0:Bool) (ab ac aa:Int) (a:List XSlot) (x_G:List Int) (left:Int) (h0:0≤left) (h1:left≤1048576) (ad:a.length≤9223372036854775807) (ae:XSlot.oks a) (af:x_G.length≤9223372036854775807) :
  ∃ n,Gw TT 210 [.st [.ro false (di ab),.ro false (di ac),.ro false (di aa),.ro k0 (.sl 2 (a.map XSlot.e)),.ro k0 (.sl 1 (x_G.map eb))],vi left] = some (vi n,[])∧-1≤n∧n≤left∧(0≤n→a.length≤1048576∧XSlot.sms a∧x_G.length≤1048576):=by
 refine Gw_ofI (F:=pf210) rfl rfl ?_
 show Wp _ pb210 _ _
 unfold pb210
 obtain ⟨n1,g1,a1,b1,s1⟩:=t213 k0 aa a left (by omega) (by omega) ad ae
 refine Uw g1 ?_ ?_
 all_goals repeat intro hc
 ·exact ⟨-1,by simp [pf210],by omega,by omega,fun h => absurd h (by omega)⟩
 obtain ⟨n2,g2,a2,b2,s2⟩:=t212 k0 x_G n1 (by omega) (by omega) af
 refine Uw g2 ?_ ?_
 all_goals repeat intro hc
 ·exact ⟨-1,by simp [pf210],by omega,by omega,fun h => absurd h (by omega)⟩
 ·exact ⟨n2,by simp [pf210],by omega,by omega,fun _ => ⟨(s1 (by omega)).1,(s1 (by omega)).2,(s2 (by omega))⟩⟩

theorem t211 (k0:Bool) (l:List XBuf) (left:Int) (h0:0≤left) (h1:left≤1048576) (hl:l.length≤9223372036854775807) (hok:XBuf.oks l) :
  ∃ n,Gw TT 211 [.one (.ro k0 (.sl 5 (l.map XBuf.e))),vi left] = some (vi n,[])∧-1≤n∧n≤left∧(0≤n→l.length≤1048576∧XBuf.sms l):=by
 refine Gw_ofI (F:=pf211) rfl rfl ?_
 show Wp _ pb211 _ _
 unfold pb211
 have g:=Wi (left - (l.length:Int))
 refine Ud g ?_ ?_
 all_goals repeat intro hc
 ·exact ⟨-1,by simp [pf211],by omega,by omega,fun h => absurd h (by omega)⟩
 ·refine wp_loopI (σ:=List XBuf × List XBuf × Int) (fun s => [(0,AV.v k0 (D.sl 5 (List.map XBuf.e l)),none),(1,AV.v false (di s.2.2),none),(5,AV.v false (di (s.1.length:Nat)),none)]) (fun s => l = s.1 ++ s.2.1∧0≤s.2.2∧s.2.2≤left - (l.length:Int)∧XBuf.sms s.1) (fun s => s.2.1.length) ([],l,left - (l.length:Int)) (by simp) ⟨rfl,by simp only; omega,by simp only; omega,fun y hy => by simp at hy⟩ ?_
  rintro ⟨pre,rest,lf⟩ ⟨h2,h3,h4,h5⟩
  simp only at h2 h3 h4 h5
  subst h2
  simp only [List.length_append,List.length_cons] at hl h4 g
  rcases rest with _ | ⟨⟨a,aa,⟨ab,ac⟩,y_G⟩,rest⟩
  ·unfold pl211_0
   refine Ud Oo ?_
   simp only [List.length_nil] at h4
   all_goals exact ⟨lf,by simp [pf211],by omega,by omega,fun _ => ⟨by simp; omega,by simpa using h5⟩⟩
  ·unfold pl211_0
   simp only [List.length_cons] at hl h4
   have hw:=Wi ((pre.length:Int) + 1)
   have hd:=hok ⟨a,aa,⟨ab,ac⟩,y_G⟩ (by simp)
   simp only [XBuf.ok,XChunk.ok,and_assoc] at hd
   obtain ⟨ag,ah,ai,aj,ak,al,ad,ae,af,am⟩:=hd
   obtain ⟨n1,g1,a1,b1,s1⟩:=t210 k0 a aa ab ac y_G lf (by omega) (by omega) ad ae af
   refine Ud (J2 g1 hw) ?_ ?_
   all_goals repeat intro hc
   ·exact ⟨-1,by simp [pf211],by omega,by omega,fun h => absurd h (by omega)⟩
   ·exact ⟨(pre ++ [⟨a,aa,⟨ab,ac⟩,y_G⟩],rest,n1),by simp,⟨by simp,by simp only; omega,by simp only [List.length_append,List.length_cons]; omega,fun y hy => by
     rcases List.mem_append.1 hy with hy | hy
     ·exact h5 y hy
     ·rw [List.mem_singleton.1 hy]
      simp only [XBuf.sm,XChunk.sm,and_assoc]
      exact s1 (by omega)⟩,by simp⟩

theorem t214 (k0:Bool) (a:List Int) (aa ab left:Int) (h0:0≤left) (h1:left≤1048576) (ac:a.length≤9223372036854775807) :
  ∃ n,Gw TT 214 [.st [.ro k0 (.sl 1 (a.map ei)),.ro false (di aa),.ro false (di ab)],vi left] = some (vi n,[])∧-1≤n∧n≤left∧(0≤n→a.length≤1048576):=by
 refine Gw_ofI (F:=pf214) rfl rfl ?_
 show Wp _ pb214 _ _
 unfold pb214
 obtain ⟨n1,g1,a1,b1,s1⟩:=t219 k0 a left (by omega) (by omega) ac
 refine Uw g1 ?_ ?_
 all_goals repeat intro hc
 ·exact ⟨-1,by simp [pf214],by omega,by omega,fun h => absurd h (by omega)⟩
 ·exact ⟨n1,by simp [pf214],by omega,by omega,fun _ => (s1 (by omega))⟩

def SzPred (x:XPred):Prop:=∀ (k0:Bool) (left:Int),0≤left→left≤1048576→x.ok→∃ n,Gw TT 220 [.st [.ro false (di x.Kind),.ro false (di x.Col),.ro false (di x.Op),.ro false (di x.V.Ty),.ro false (di x.V.N),.ro false (.str x.V.S),.ro k0 (.sl 7 (x.L.map XPred.e))],vi left] = some (vi n,[])∧-1≤n∧n≤left∧(0≤n→x.sm)
def SzPreds (l:List XPred):Prop:=∀ (k0:Bool) (left:Int),0≤left→left≤1048576→l.length≤9223372036854775807→XPred.oks l →
  ∃ n,Gw TT 221 [.one (.ro k0 (.sl 7 (l.map XPred.e))),vi left] = some (vi n,[])∧-1≤n∧n≤left∧(0≤n→l.length≤1048576∧XPred.sms l)

theorem SzPreds_of (l:List XPred) (IH:∀ y ∈ l,SzPred y):SzPreds l:=by
 intro k0 left h0 h1 hl hok
 refine Gw_ofI (F:=pf221) rfl rfl ?_
 show Wp _ pb221 _ _
 unfold pb221
 have g:=Wi (left - (l.length:Int))
 refine Ud g ?_ ?_
 all_goals repeat intro hc
 ·exact ⟨-1,by simp [pf221],by omega,by omega,fun h => absurd h (by omega)⟩
 ·refine wp_loopI (σ:=List XPred × List XPred × Int) (fun s => [(0,AV.v k0 (D.sl 7 (List.map XPred.e l)),none),(1,AV.v false (di s.2.2),none),(5,AV.v false (di (s.1.length:Nat)),none)]) (fun s => l = s.1 ++ s.2.1∧0≤s.2.2∧s.2.2≤left - (l.length:Int)∧XPred.sms s.1) (fun s => s.2.1.length) ([],l,left - (l.length:Int)) (by simp) ⟨rfl,by simp only; omega,by simp only; omega,by simp [XPred.sms]⟩ ?_
  rintro ⟨pre,rest,lf⟩ ⟨h2,h3,h4,h5⟩
  simp only at h2 h3 h4 h5
  subst h2
  simp only [List.length_append,List.length_cons] at hl h4 g
  rcases rest with _ | ⟨⟨a,aa,ab,⟨ac,ad,ae⟩,y_L⟩,rest⟩
  ·unfold pl221_0
   refine Ud Oo ?_
   simp only [List.length_nil] at h4
   all_goals exact ⟨lf,by simp [pf221],by omega,by omega,fun _ => ⟨by simp; omega,by simpa using h5⟩⟩
  ·unfold pl221_0
   simp only [List.length_cons] at hl h4
   have hw:=Wi ((pre.length:Int) + 1)
   obtain ⟨n1,g1,a1,b1,s1⟩:=IH ⟨a,aa,ab,⟨ac,ad,ae⟩,y_L⟩ (by simp) k0 lf (by omega) (by omega) (XPred.oks_mem hok ⟨a,aa,ab,⟨ac,ad,ae⟩,y_L⟩ (by simp))
   simp only at g1
   refine Ud (J2 g1 hw) ?_ ?_
   all_goals repeat intro hc
   ·exact ⟨-1,by simp [pf221],by omega,by omega,fun h => absurd h (by omega)⟩
   ·exact ⟨(pre ++ [⟨a,aa,ab,⟨ac,ad,ae⟩,y_L⟩],rest,n1),by simp,⟨by simp,by simp only; omega,by simp only [List.length_append,List.length_cons]; omega,by
     rw [XPred.sms_eq]
     intro y hy
     rcases List.mem_append.1 hy with hy | hy
     ·exact XPred.sms_mem h5 y hy
     ·rw [List.mem_singleton.1 hy]
      exact s1 (by omega)⟩,by simp⟩

theorem SzPred_of (x:XPred) (IH:SzPreds x.L):SzPred x:=by
 intro k0 left h0 h1 hx
 obtain ⟨af,ag,ah,⟨a,aa,ab⟩,x_L⟩:=x
 simp only [XPred.ok_eq,XVal.ok,and_assoc] at hx
 obtain ⟨ai,aj,ak,al,am,an,ao,ap,aq,ar,ac,ad,ae⟩:=hx
 refine Gw_ofI (F:=pf220) rfl rfl ?_
 show Wp _ pb220 _ _
 unfold pb220
 obtain ⟨n1,g1,a1,b1,s1⟩:=t231 a aa ab left (by omega) (by omega) ac
 refine Uw g1 ?_ ?_
 all_goals repeat intro hc
 ·exact ⟨-1,by simp [pf220],by omega,by omega,fun h => absurd h (by omega)⟩
 obtain ⟨n2,g2,a2,b2,s2⟩:=IH k0 n1 (by omega) (by omega) ad ae
 simp only at g2
 refine Uw g2 ?_ ?_
 all_goals repeat intro hc
 ·exact ⟨-1,by simp [pf220],by omega,by omega,fun h => absurd h (by omega)⟩
 ·exact ⟨n2,by simp [pf220],by omega,by omega,fun _ => by simp only [XPred.sm_eq,XVal.sm,and_assoc]; exact ⟨(s1 (by omega)),(s2 (by omega)).1,(s2 (by omega)).2⟩⟩

theorem SzPred_all (x:XPred):SzPred x :=
 SzPred_of x (SzPreds_of x.L fun y hy => SzPred_all y)
termination_by SizeOf.sizeOf x
decreasing_by
 have h1:=List.sizeOf_lt_of_mem hy
 have h2:SizeOf.sizeOf x.L < SizeOf.sizeOf x:=by cases x; simp; omega
 omega

theorem SzPred_raw (x:XPred) (k0:Bool) (left:Int) (h0:0≤left) (h1:left≤1048576) (hv:x.V.S.size≤9223372036854775807) (hL:x.L.length≤9223372036854775807) (hs:XPred.oks x.L) :
  ∃ n,Gw TT 220 [.st [.ro false (di x.Kind),.ro false (di x.Col),.ro false (di x.Op),.ro false (di x.V.Ty),.ro false (di x.V.N),.ro false (.str x.V.S),.ro k0 (.sl 7 (x.L.map XPred.e))],vi left] = some (vi n,[])∧-1≤n∧n≤left∧(0≤n→x.sm):=by
 have IH:=SzPreds_of x.L fun y _ => SzPred_all y
 obtain ⟨af,ag,ah,⟨ac,ad,ae⟩,x_L⟩:=x
 have a:=hv
 have aa:=hL
 have ab:=hs
 simp only at a aa ab
 refine Gw_ofI (F:=pf220) rfl rfl ?_
 show Wp _ pb220 _ _
 unfold pb220
 obtain ⟨n1,g1,a1,b1,s1⟩:=t231 ac ad ae left (by omega) (by omega) a
 refine Uw g1 ?_ ?_
 all_goals repeat intro hc
 ·exact ⟨-1,by simp [pf220],by omega,by omega,fun h => absurd h (by omega)⟩
 obtain ⟨n2,g2,a2,b2,s2⟩:=IH k0 n1 (by omega) (by omega) aa ab
 simp only at g2
 refine Uw g2 ?_ ?_
 all_goals repeat intro hc
 ·exact ⟨-1,by simp [pf220],by omega,by omega,fun h => absurd h (by omega)⟩
 ·exact ⟨n2,by simp [pf220],by omega,by omega,fun _ => by simp only [XPred.sm_eq,XVal.sm,and_assoc]; exact ⟨(s1 (by omega)),(s2 (by omega)).1,(s2 (by omega)).2⟩⟩

theorem t220 (k0:Bool) (ab ac:Int) (ad ae af:Int) (aa:ByteArray) (x_L:List XPred) (left:Int) (h0:0≤left) (h1:left≤1048576) (ag:aa.size≤9223372036854775807) (ah:x_L.length≤9223372036854775807) (ai:XPred.oks x_L) :
  ∃ n,Gw TT 220 [.st [.ro false (di ab),.ro false (di ac),.ro false (di ad),.ro false (di ae),.ro false (di af),.ro false (.str aa),.ro k0 (.sl 7 (x_L.map XPred.e))],vi left] = some (vi n,[])∧-1≤n∧n≤left∧(0≤n→aa.size≤1048576∧x_L.length≤1048576∧XPred.sms x_L):=by
 obtain ⟨n,g,a,b,s⟩:=SzPred_raw ⟨ab,ac,ad,⟨ae,af,aa⟩,x_L⟩ k0 left h0 h1 ag ah ai
 exact ⟨n,g,a,b,fun h => by have:=s h; simp only [XPred.sm_eq,XVal.sm,and_assoc] at this; exact this⟩

theorem t221 (k0:Bool) (l:List XPred) (left:Int) (h0:0≤left) (h1:left≤1048576) (hl:l.length≤9223372036854775807) (hok:XPred.oks l) :
  ∃ n,Gw TT 221 [.one (.ro k0 (.sl 7 (l.map XPred.e))),vi left] = some (vi n,[])∧-1≤n∧n≤left∧(0≤n→l.length≤1048576∧XPred.sms l):=SzPreds_of l (fun y _ => SzPred_all y) k0 left h0 h1 hl hok

theorem t222 (k0:Bool) (ah ac:Int) (ad ae:Int) (af ag:Int) (aa:ByteArray) (a:List XPred) (ai:Int) (ab:List Int) (left:Int) (h0:0≤left) (h1:left≤1048576) (aj:aa.size≤9223372036854775807) (ak:a.length≤9223372036854775807) (al:XPred.oks a) (am:ab.length≤9223372036854775807) :
  ∃ n,Gw TT 222 [.st [.ro false (di ah),.ro false (di ac),.ro false (di ad),.ro false (di ae),.ro false (di af),.ro false (di ag),.ro false (.str aa),.ro k0 (.sl 7 (a.map XPred.e)),.ro false (di ai),.ro k0 (.sl 1 (ab.map ei))],vi left] = some (vi n,[])∧-1≤n∧n≤left∧(0≤n→aa.size≤1048576∧a.length≤1048576∧XPred.sms a∧ab.length≤1048576):=by
 refine Gw_ofI (F:=pf222) rfl rfl ?_
 show Wp _ pb222 _ _
 unfold pb222
 obtain ⟨n1,g1,a1,b1,s1⟩:=t220 k0 ac ad ae af ag aa a left (by omega) (by omega) aj ak al
 refine Uw g1 ?_ ?_
 all_goals repeat intro hc
 ·exact ⟨-1,by simp [pf222],by omega,by omega,fun h => absurd h (by omega)⟩
 obtain ⟨n2,g2,a2,b2,s2⟩:=t219 k0 ab n1 (by omega) (by omega) am
 refine Uw g2 ?_ ?_
 all_goals repeat intro hc
 ·exact ⟨-1,by simp [pf222],by omega,by omega,fun h => absurd h (by omega)⟩
 ·exact ⟨n2,by simp [pf222],by omega,by omega,fun _ => ⟨(s1 (by omega)).1,(s1 (by omega)).2.1,(s1 (by omega)).2.2,(s2 (by omega))⟩⟩

theorem t224 (k0:Bool) (a:List XRow) (x_N:Int) (ad:Bool) (ab ac:Int) (aa:ByteArray) (left:Int) (h0:0≤left) (h1:left≤1048576) (ae:a.length≤9223372036854775807) (af:XRow.oks a) (ag:aa.size≤9223372036854775807) :
  ∃ n,Gw TT 224 [.st [.ro k0 (.sl 2 (a.map XRow.e)),.ro false (di x_N),.ro false (.bool ad),.ro false (di ab),.ro false (di ac),.ro false (.str aa)],vi left] = some (vi n,[])∧-1≤n∧n≤left∧(0≤n→a.length≤1048576∧XRow.sms a∧aa.size≤1048576):=by
 refine Gw_ofI (F:=pf224) rfl rfl ?_
 show Wp _ pb224 _ _
 unfold pb224
 obtain ⟨n1,g1,a1,b1,s1⟩:=t226 k0 a left (by omega) (by omega) ae af
 refine Uw g1 ?_ ?_
 all_goals repeat intro hc
 ·exact ⟨-1,by simp [pf224],by omega,by omega,fun h => absurd h (by omega)⟩
 obtain ⟨n2,g2,a2,b2,s2⟩:=t231 ab ac aa n1 (by omega) (by omega) ag
 refine Uw g2 ?_ ?_
 all_goals repeat intro hc
 ·exact ⟨-1,by simp [pf224],by omega,by omega,fun h => absurd h (by omega)⟩
 ·exact ⟨n2,by simp [pf224],by omega,by omega,fun _ => ⟨(s1 (by omega)).1,(s1 (by omega)).2,(s2 (by omega))⟩⟩

theorem t229 (k0:Bool) (ak al x_H:Int) (x_R:List XVal) (am ad:Int) (ae af:Int) (ag ah ai:Int) (ab:ByteArray) (a:List XPred) (aj:Int) (ac:List Int) (an ao:Int) (x_L:List XRef) (x_I x_J:Int) (x_S ap aq:Int) (ar:Bool) (aa:List XRow) (left:Int) (h0:0≤left) (h1:left≤1048576) (au:x_R.length≤9223372036854775807) (av:XVal.oks x_R) (aw:ab.size≤9223372036854775807) (ax:a.length≤9223372036854775807) (ay:XPred.oks a) (az:ac.length≤9223372036854775807) (aA:x_L.length≤9223372036854775807) (aB:aa.length≤9223372036854775807) (aC:XRow.oks aa) :
  ∃ n,Gw TT 229 [.st [.ro false (di ak),.ro false (di al),.ro false (di x_H),.ro k0 (.sl 3 (x_R.map XVal.e)),.ro false (di am),.ro false (di ad),.ro false (di ae),.ro false (di af),.ro false (di ag),.ro false (di ah),.ro false (di ai),.ro false (.str ab),.ro k0 (.sl 7 (a.map XPred.e)),.ro false (di aj),.ro k0 (.sl 1 (ac.map ei)),.ro false (di an),.ro false (di ao),.ro k0 (.sl 5 (x_L.map XRef.e)),.ro false (di x_I),.ro false (di x_J),.ro false (di x_S),.ro false (di ap),.ro false (di aq),.ro false (.bool ar),.ro k0 (.sl 2 (aa.map XRow.e))],vi left] = some (vi n,[])∧-1≤n∧n≤left∧(0≤n→x_R.length≤1048576∧XVal.sms x_R∧ab.size≤1048576∧a.length≤1048576∧XPred.sms a∧ac.length≤1048576∧x_L.length≤1048576∧aa.length≤1048576∧XRow.sms aa):=by
 refine Gw_ofI (F:=pf229) rfl rfl ?_
 show Wp _ pb229 _ _
 unfold pb229
 obtain ⟨n1,g1,a1,b1,s1⟩:=t232 k0 x_R left (by omega) (by omega) au av
 refine Uw g1 ?_ ?_
 all_goals repeat intro hc
 ·exact ⟨-1,by simp [pf229],by omega,by omega,fun h => absurd h (by omega)⟩
 obtain ⟨n2,g2,a2,b2,s2⟩:=t222 k0 ad ae af ag ah ai ab a aj ac n1 (by omega) (by omega) aw ax ay az
 refine Uw g2 ?_ ?_
 all_goals repeat intro hc
 ·exact ⟨-1,by simp [pf229],by omega,by omega,fun h => absurd h (by omega)⟩
 obtain ⟨n3,g3,a3,b3,s3⟩:=t223 k0 x_L n2 (by omega) (by omega) aA
 refine Uw g3 ?_ ?_
 all_goals repeat intro hc
 ·exact ⟨-1,by simp [pf229],by omega,by omega,fun h => absurd h (by omega)⟩
 obtain ⟨n4,g4,a4,b4,s4⟩:=t226 k0 aa n3 (by omega) (by omega) aB aC
 refine Uw g4 ?_ ?_
 all_goals repeat intro hc
 ·exact ⟨-1,by simp [pf229],by omega,by omega,fun h => absurd h (by omega)⟩
 ·exact ⟨n4,by simp [pf229],by omega,by omega,fun _ => ⟨(s1 (by omega)).1,(s1 (by omega)).2,(s2 (by omega)).1,(s2 (by omega)).2.1,(s2 (by omega)).2.2.1,(s2 (by omega)).2.2.2,(s3 (by omega)),(s4 (by omega)).1,(s4 (by omega)).2⟩⟩

theorem t230 (k0:Bool) (l:List XTask) (left:Int) (h0:0≤left) (h1:left≤1048576) (hl:l.length≤9223372036854775807) (hok:XTask.oks l) :
  ∃ n,Gw TT 230 [.one (.ro k0 (.sl 25 (l.map XTask.e))),vi left] = some (vi n,[])∧-1≤n∧n≤left∧(0≤n→l.length≤1048576∧XTask.sms l):=by
 refine Gw_ofI (F:=pf230) rfl rfl ?_
 show Wp _ pb230 _ _
 unfold pb230
 have g:=Wi (left - (l.length:Int))
 refine Ud g ?_ ?_
 all_goals repeat intro hc
 ·exact ⟨-1,by simp [pf230],by omega,by omega,fun h => absurd h (by omega)⟩
 ·refine wp_loopI (σ:=List XTask × List XTask × Int) (fun s => [(0,AV.v k0 (D.sl 25 (List.map XTask.e l)),none),(1,AV.v false (di s.2.2),none),(5,AV.v false (di (s.1.length:Nat)),none)]) (fun s => l = s.1 ++ s.2.1∧0≤s.2.2∧s.2.2≤left - (l.length:Int)∧XTask.sms s.1) (fun s => s.2.1.length) ([],l,left - (l.length:Int)) (by simp) ⟨rfl,by simp only; omega,by simp only; omega,fun y hy => by simp at hy⟩ ?_
  rintro ⟨pre,rest,lf⟩ ⟨h2,h3,h4,h5⟩
  simp only at h2 h3 h4 h5
  subst h2
  simp only [List.length_append,List.length_cons] at hl h4 g
  rcases rest with _ | ⟨⟨a,aa,y_H,y_R,ab,⟨ac,⟨ad,ae,af,⟨ag,ah,ai⟩,aj⟩,ak,al⟩,am,an,y_L,y_I,y_J,y_S,ao,ap,aq,ar⟩,rest⟩
  ·unfold pl230_0
   refine Ud Oo ?_
   repeat intro hc
   simp only [List.length_nil] at h4
   all_goals exact ⟨lf,by simp [pf230],by omega,by omega,fun _ => ⟨by simp; omega,by simpa using h5⟩⟩
  ·unfold pl230_0
   simp only [List.length_cons] at hl h4
   have hw:=Wi ((pre.length:Int) + 1)
   have hd:=hok ⟨a,aa,y_H,y_R,ab,⟨ac,⟨ad,ae,af,⟨ag,ah,ai⟩,aj⟩,ak,al⟩,am,an,y_L,y_I,y_J,y_S,ao,ap,aq,ar⟩ (by simp)
   simp only [XTask.ok,XQuery.ok,XPred.ok_eq,XVal.ok,and_assoc] at hd
   obtain ⟨aD,aE,aF,aG,aH,aI,au,av,aJ,aK,aL,aM,aN,aO,aP,aQ,aR,aS,aT,aU,aV,aW,aw,ax,ay,aX,aY,az,aZ,a0,a2,a3,a4,aA,a5,a6,a7,a8,a9,b,ba,bb,bc,bd,be,aB,aC⟩:=hd
   obtain ⟨n1,g1,a1,b1,s1⟩:=t229 k0 a aa y_H y_R ab ac ad ae af ag ah ai aj ak al am an y_L y_I y_J y_S ao ap aq ar lf (by omega) (by omega) au av aw ax ay az aA aB aC
   refine Ud (J2 g1 hw) ?_ ?_
   all_goals repeat intro hc
   ·exact ⟨-1,by simp [pf230],by omega,by omega,fun h => absurd h (by omega)⟩
   ·exact ⟨(pre ++ [⟨a,aa,y_H,y_R,ab,⟨ac,⟨ad,ae,af,⟨ag,ah,ai⟩,aj⟩,ak,al⟩,am,an,y_L,y_I,y_J,y_S,ao,ap,aq,ar⟩],rest,n1),by simp,⟨by simp,by simp only; omega,by simp only [List.length_append,List.length_cons]; omega,fun y hy => by
     rcases List.mem_append.1 hy with hy | hy
     ·exact h5 y hy
     ·rw [List.mem_singleton.1 hy]
      simp only [XTask.sm,XQuery.sm,XPred.sm_eq,XVal.sm,and_assoc]
      exact s1 (by omega)⟩,by simp⟩

theorem t216 (k0:Bool) (ap aq:Int) (x_R:List XVal) (ar ae:Int) (af ag:Int) (ah ai aj:Int) (ab:ByteArray) (a:List XPred) (ak:Int) (ac:List Int) (aa:List XRow) (al:Int) (am:Bool) (an ao:Int) (ad:ByteArray) (au av:Int) (aw ax:Int) (ay left:Int) (h0:0≤left) (h1:left≤1048576) (az:x_R.length≤9223372036854775807) (aA:XVal.oks x_R) (aB:ab.size≤9223372036854775807) (aC:a.length≤9223372036854775807) (aD:XPred.oks a) (aE:ac.length≤9223372036854775807) (aF:aa.length≤9223372036854775807) (aG:XRow.oks aa) (aH:ad.size≤9223372036854775807) :
  ∃ n,Gw TT 216 [.st [.ro false (di ap),.ro false (di aq),.ro k0 (.sl 3 (x_R.map XVal.e)),.ro false (di ar),.ro false (di ae),.ro false (di af),.ro false (di ag),.ro false (di ah),.ro false (di ai),.ro false (di aj),.ro false (.str ab),.ro k0 (.sl 7 (a.map XPred.e)),.ro false (di ak),.ro k0 (.sl 1 (ac.map ei)),.ro k0 (.sl 2 (aa.map XRow.e)),.ro false (di al),.ro false (.bool am),.ro false (di an),.ro false (di ao),.ro false (.str ad),.ro false (di au),.ro false (di av),.ro false (di aw),.ro false (di ax),.ro false (di ay)],vi left] = some (vi n,[])∧-1≤n∧n≤left∧(0≤n→x_R.length≤1048576∧XVal.sms x_R∧ab.size≤1048576∧a.length≤1048576∧XPred.sms a∧ac.length≤1048576∧aa.length≤1048576∧XRow.sms aa∧ad.size≤1048576):=by
 refine Gw_ofI (F:=pf216) rfl rfl ?_
 show Wp _ pb216 _ _
 unfold pb216
 obtain ⟨n1,g1,a1,b1,s1⟩:=t232 k0 x_R left (by omega) (by omega) az aA
 refine Uw g1 ?_ ?_
 all_goals repeat intro hc
 ·exact ⟨-1,by simp [pf216],by omega,by omega,fun h => absurd h (by omega)⟩
 obtain ⟨n2,g2,a2,b2,s2⟩:=t222 k0 ae af ag ah ai aj ab a ak ac n1 (by omega) (by omega) aB aC aD aE
 refine Uw g2 ?_ ?_
 all_goals repeat intro hc
 ·exact ⟨-1,by simp [pf216],by omega,by omega,fun h => absurd h (by omega)⟩
 obtain ⟨n3,g3,a3,b3,s3⟩:=t224 k0 aa al am an ao ad n2 (by omega) (by omega) aF aG aH
 refine Uw g3 ?_ ?_
 all_goals repeat intro hc
 ·exact ⟨-1,by simp [pf216],by omega,by omega,fun h => absurd h (by omega)⟩
 ·exact ⟨n3,by simp [pf216],by omega,by omega,fun _ => ⟨(s1 (by omega)).1,(s1 (by omega)).2,(s2 (by omega)).1,(s2 (by omega)).2.1,(s2 (by omega)).2.2.1,(s2 (by omega)).2.2.2,(s3 (by omega)).1,(s3 (by omega)).2.1,(s3 (by omega)).2.2⟩⟩

theorem t217 (k0:Bool) (l:List XDeed) (left:Int) (h0:0≤left) (h1:left≤1048576) (hl:l.length≤9223372036854775807) (hok:XDeed.oks l) :
  ∃ n,Gw TT 217 [.one (.ro k0 (.sl 25 (l.map XDeed.e))),vi left] = some (vi n,[])∧-1≤n∧n≤left∧(0≤n→l.length≤1048576∧XDeed.sms l):=by
 refine Gw_ofI (F:=pf217) rfl rfl ?_
 show Wp _ pb217 _ _
 unfold pb217
 have g:=Wi (left - (l.length:Int))
 refine Ud g ?_ ?_
 all_goals repeat intro hc
 ·exact ⟨-1,by simp [pf217],by omega,by omega,fun h => absurd h (by omega)⟩
 ·refine wp_loopI (σ:=List XDeed × List XDeed × Int) (fun s => [(0,AV.v k0 (D.sl 25 (List.map XDeed.e l)),none),(1,AV.v false (di s.2.2),none),(5,AV.v false (di (s.1.length:Nat)),none)]) (fun s => l = s.1 ++ s.2.1∧0≤s.2.2∧s.2.2≤left - (l.length:Int)∧XDeed.sms s.1) (fun s => s.2.1.length) ([],l,left - (l.length:Int)) (by simp) ⟨rfl,by simp only; omega,by simp only; omega,fun y hy => by simp at hy⟩ ?_
  rintro ⟨pre,rest,lf⟩ ⟨h2,h3,h4,h5⟩
  simp only at h2 h3 h4 h5
  subst h2
  simp only [List.length_append,List.length_cons] at hl h4 g
  rcases rest with _ | ⟨⟨a,aa,y_R,ab,⟨ac,⟨ad,ae,af,⟨ag,ah,ai⟩,aj⟩,ak,al⟩,⟨am,an,ao,⟨ap,aq,ar⟩⟩,au,av,aw,ax,ay⟩,rest⟩
  ·unfold pl217_0
   refine Ud Oo ?_
   repeat intro hc
   simp only [List.length_nil] at h4
   all_goals exact ⟨lf,by simp [pf217],by omega,by omega,fun _ => ⟨by simp; omega,by simpa using h5⟩⟩
  ·unfold pl217_0
   simp only [List.length_cons] at hl h4
   have hw:=Wi ((pre.length:Int) + 1)
   have hd:=hok ⟨a,aa,y_R,ab,⟨ac,⟨ad,ae,af,⟨ag,ah,ai⟩,aj⟩,ak,al⟩,⟨am,an,ao,⟨ap,aq,ar⟩⟩,au,av,aw,ax,ay⟩ (by simp)
   simp only [XDeed.ok,XQuery.ok,XPred.ok_eq,XVal.ok,XResult.ok,and_assoc] at hd
   obtain ⟨aI,aJ,aK,aL,az,aA,aM,aN,aO,aP,aQ,aR,aS,aT,aU,aV,aW,aX,aY,aZ,aB,aC,aD,a0,a2,aE,a3,aF,aG,a4,a5,a6,a7,a8,a9,aH,b,ba,bb,bc,bd,be,bf,bg,bh,bi⟩:=hd
   obtain ⟨n1,g1,a1,b1,s1⟩:=t216 k0 a aa y_R ab ac ad ae af ag ah ai aj ak al am an ao ap aq ar au av aw ax ay lf (by omega) (by omega) az aA aB aC aD aE aF aG aH
   refine Ud (J2 g1 hw) ?_ ?_
   all_goals repeat intro hc
   ·exact ⟨-1,by simp [pf217],by omega,by omega,fun h => absurd h (by omega)⟩
   ·exact ⟨(pre ++ [⟨a,aa,y_R,ab,⟨ac,⟨ad,ae,af,⟨ag,ah,ai⟩,aj⟩,ak,al⟩,⟨am,an,ao,⟨ap,aq,ar⟩⟩,au,av,aw,ax,ay⟩],rest,n1),by simp,⟨by simp,by simp only; omega,by simp only [List.length_append,List.length_cons]; omega,fun y hy => by
     rcases List.mem_append.1 hy with hy | hy
     ·exact h5 y hy
     ·rw [List.mem_singleton.1 hy]
      simp only [XDeed.sm,XQuery.sm,XPred.sm_eq,XVal.sm,XResult.sm,and_assoc]
      exact s1 (by omega)⟩,by simp⟩

theorem t233 (k0:Bool) (ab:List Int) (ad ae:Int) (ag x_T:Int) (x_E af:Int) (ac:List XRef) (x_B:List XBuf) (x_M:List Int) (x_X:List XDead) (x_P:List Int) (a:List XTask) (aa:List XDeed) (left:Int) (h0:0≤left) (h1:left≤1048576) (ah:ab.length≤9223372036854775807) (ai:ac.length≤9223372036854775807) (aj:x_B.length≤9223372036854775807) (ak:XBuf.oks x_B) (al:x_M.length≤9223372036854775807) (am:x_X.length≤9223372036854775807) (an:x_P.length≤9223372036854775807) (ao:a.length≤9223372036854775807) (ap:XTask.oks a) (aq:aa.length≤9223372036854775807) (ar:XDeed.oks aa) :
  ∃ n,Gw TT 233 [.st [.ro k0 (.sl 1 (ab.map ei)),.ro false (di ad),.ro false (di ae),.ro false (di ag),.ro false (di x_T),.ro false (di x_E),.ro false (di af),.ro k0 (.sl 5 (ac.map XRef.e)),.ro k0 (.sl 5 (x_B.map XBuf.e)),.ro k0 (.sl 1 (x_M.map ei)),.ro k0 (.sl 3 (x_X.map XDead.e)),.ro k0 (.sl 1 (x_P.map ei)),.ro k0 (.sl 25 (a.map XTask.e)),.ro k0 (.sl 25 (aa.map XDeed.e))],vi left] = some (vi n,[])∧-1≤n∧n≤left∧(0≤n→ab.length≤1048576∧ac.length≤1048576∧x_B.length≤1048576∧XBuf.sms x_B∧x_M.length≤1048576∧x_X.length≤1048576∧x_P.length≤1048576∧a.length≤1048576∧XTask.sms a∧aa.length≤1048576∧XDeed.sms aa):=by
 refine Gw_ofI (F:=pf233) rfl rfl ?_
 show Wp _ pb233 _ _
 unfold pb233
 obtain ⟨n1,g1,a1,b1,s1⟩:=t214 k0 ab ad ae left (by omega) (by omega) ah
 refine Uw g1 ?_ ?_
 all_goals repeat intro hc
 ·exact ⟨-1,by simp [pf233],by omega,by omega,fun h => absurd h (by omega)⟩
 obtain ⟨n2,g2,a2,b2,s2⟩:=t218 k0 af ac n1 (by omega) (by omega) ai
 refine Uw g2 ?_ ?_
 all_goals repeat intro hc
 ·exact ⟨-1,by simp [pf233],by omega,by omega,fun h => absurd h (by omega)⟩
 obtain ⟨n3,g3,a3,b3,s3⟩:=t211 k0 x_B n2 (by omega) (by omega) aj ak
 refine Uw g3 ?_ ?_
 all_goals repeat intro hc
 ·exact ⟨-1,by simp [pf233],by omega,by omega,fun h => absurd h (by omega)⟩
 obtain ⟨n4,g4,a4,b4,s4⟩:=t219 k0 x_M n3 (by omega) (by omega) al
 refine Uw g4 ?_ ?_
 all_goals repeat intro hc
 ·exact ⟨-1,by simp [pf233],by omega,by omega,fun h => absurd h (by omega)⟩
 obtain ⟨n5,g5,a5,b5,s5⟩:=t215 k0 x_X n4 (by omega) (by omega) am
 refine Uw g5 ?_ ?_
 all_goals repeat intro hc
 ·exact ⟨-1,by simp [pf233],by omega,by omega,fun h => absurd h (by omega)⟩
 obtain ⟨n6,g6,a6,b6,s6⟩:=t219 k0 x_P n5 (by omega) (by omega) an
 refine Uw g6 ?_ ?_
 all_goals repeat intro hc
 ·exact ⟨-1,by simp [pf233],by omega,by omega,fun h => absurd h (by omega)⟩
 obtain ⟨n7,g7,a7,b7,s7⟩:=t230 k0 a n6 (by omega) (by omega) ao ap
 refine Uw g7 ?_ ?_
 all_goals repeat intro hc
 ·exact ⟨-1,by simp [pf233],by omega,by omega,fun h => absurd h (by omega)⟩
 obtain ⟨n8,g8,a8,b8,s8⟩:=t217 k0 aa n7 (by omega) (by omega) aq ar
 refine Uw g8 ?_ ?_
 all_goals repeat intro hc
 ·exact ⟨-1,by simp [pf233],by omega,by omega,fun h => absurd h (by omega)⟩
 ·exact ⟨n8,by simp [pf233],by omega,by omega,fun _ => ⟨(s1 (by omega)),(s2 (by omega)),(s3 (by omega)).1,(s3 (by omega)).2,(s4 (by omega)),(s5 (by omega)),(s6 (by omega)),(s7 (by omega)).1,(s7 (by omega)).2,(s8 (by omega)).1,(s8 (by omega)).2⟩⟩

@[simp] theorem t87 (x a b:Int):Gw TT 87 [vi x,vi a,vi b] = some (vb (decide (a≤x) && decide (x≤b)),[]):=by
 refine Gw_of (F:=pf87) rfl rfl ?_
 show Wp _ pb87 _ _
 unfold pb87
 repeat' first|refine Zs ?_|((with_reducible refine Xk fun K k=>?_);simp;(repeat' (with_reducible first|refine k _ ?_|(refine psel ?_ ?_<;>(intro hc;(try rw [Decidable.not_not] at hc);first|(exfalso;omega)|(try simp [hc])))));all_goals clear k K)|refine Xt rfl ?_|refine Xf rfl ?_
 all_goals first | (simp_all [pf87]; done) | (simp_all [pf87]; omega)

@[simp] theorem t377 (x a b:Int):Gw TT 377 [vi x,vi a,vi b] = some (vb (decide (a≤x) && decide (x≤b)),[]):=by
 refine Gw_of (F:=pf377) rfl rfl ?_
 show Wp _ pb377 _ _
 unfold pb377
 repeat' first|refine Zs ?_|((with_reducible refine Xk fun K k=>?_);simp;(repeat' (with_reducible first|refine k _ ?_|(refine psel ?_ ?_<;>(intro hc;(try rw [Decidable.not_not] at hc);first|(exfalso;omega)|(try simp [hc])))));all_goals clear k K)|refine Xt rfl ?_|refine Xf rfl ?_
 all_goals first | (simp_all [pf377]; done) | (simp_all [pf377]; omega)

def colsB:List Int→Bool
 | [] => true
 | p :: l => if p ≠ 1∧p ≠ 2 then false else colsB l
def colsOk (l:List Int):Bool:=colsB l && (decide (1≤(l.length:Int)) && decide ((l.length:Int)≤3))
def confOk (c:List Int) (s b:Int):Bool:=colsOk c && (decide (1≤s) && decide (s≤4)) && (decide (1≤b) && decide (b≤8))

@[simp] theorem t12 (k0:Bool) (l:List Int) (h:l.length≤1048576):Gw TT 12 [.one (.ro k0 (.sl 1 (l.map ei)))] = some (vb (colsOk l),[]):=by
 refine Gw_of (F:=pf12) rfl rfl ?_
 show Wp _ pb12 _ _
 unfold pb12
 repeat' first|refine Zs ?_|((with_reducible refine Xk fun K k=>?_);simp;(repeat' (with_reducible first|refine k _ ?_|(refine psel ?_ ?_<;>(intro hc;(try rw [Decidable.not_not] at hc);first|(exfalso;omega)|(try simp [hc])))));all_goals clear k K)|refine Xt rfl ?_|refine Xf rfl ?_|(refine We rfl ?_ ?_<;>(intro hc;(try simp at hc);(all_goals first|(exfalso;omega)|skip)))
 refine wp_loopI (σ:=List (Int) × List (Int)) (fun s => [(0,AV.v k0 (D.sl 1 (l.map ei)),none),(5,AV.v k0 (D.sl 1 (l.map ei)),none),(6,AV.v false (di (l.length:Nat)),none),(7,AV.v false (di ((s.1.length:Nat):Int)),none)]) (fun s => l = s.1 ++ s.2∧colsB s.2 = colsB l) (fun s => s.2.length) ([],l) (by simp) ⟨rfl,rfl⟩ ?_
 rintro ⟨pre,rest⟩ ⟨h1,h2⟩
 simp only at h1 h2
 subst h1
 simp only [List.length_append,List.length_cons] at h
 rcases rest with _ | ⟨d,rest⟩
 ·unfold pl12_0
  simp only [colsB] at h2
  repeat' first|refine Zs ?_|((with_reducible refine Xk fun K k=>?_);simp;(repeat' (with_reducible first|refine k _ ?_|(refine psel ?_ ?_<;>(intro hc;(try rw [Decidable.not_not] at hc);first|(exfalso;omega)|(try simp [hc])))));all_goals clear k K)|refine Xt rfl ?_|refine Xf rfl ?_|(refine We rfl ?_ ?_<;>(intro hc;(try simp at hc);(all_goals first|(exfalso;omega)|skip)))
  simp_all [pf12,colsOk]
 ·unfold pl12_0
  simp only [List.length_cons] at h
  simp only [colsB] at h2
  have hw:=Wi ((pre.length:Int) + 1) (by omega) (by omega)
  repeat' first|refine Zs ?_|((with_reducible refine Xk fun K k=>?_);simp [hw];(repeat' (with_reducible first|refine k _ ?_|(refine psel ?_ ?_<;>(intro hc;(try rw [Decidable.not_not] at hc);first|(exfalso;omega)|(try simp [hc,hw])))));all_goals clear k K)|refine Xt rfl ?_|refine Xf rfl ?_|(refine We rfl ?_ ?_<;>(intro hc;(try simp at hc);(all_goals first|(exfalso;omega)|skip)))
  all_goals first | (refine ⟨(pre ++ [d],rest),?_,⟨?_,?_⟩,?_⟩; (focus (first | (simp; done) | (simp_all; done))); (focus (simp; done)); (focus (refine Eq.trans ?_ h2; clear h2; first | (simp [*]; done) | (simp_all; done) | (split <;> simp_all <;> omega) | (split <;> first | (exfalso; omega) | (simp_all; done)))); (focus (simp; done))) | (simp_all [pf12,colsOk]; done)

@[simp] theorem t268 (k0:Bool) (l:List Int) (h:l.length≤1048576):Gw TT 268 [.one (.ro k0 (.sl 1 (l.map ei)))] = some (vb (colsOk l),[]):=by
 refine Gw_of (F:=pf268) rfl rfl ?_
 show Wp _ pb268 _ _
 unfold pb268
 repeat' first|refine Zs ?_|((with_reducible refine Xk fun K k=>?_);simp;(repeat' (with_reducible first|refine k _ ?_|(refine psel ?_ ?_<;>(intro hc;(try rw [Decidable.not_not] at hc);first|(exfalso;omega)|(try simp [hc])))));all_goals clear k K)|refine Xt rfl ?_|refine Xf rfl ?_|(refine We rfl ?_ ?_<;>(intro hc;(try simp at hc);(all_goals first|(exfalso;omega)|skip)))
 refine wp_loopI (σ:=List (Int) × List (Int)) (fun s => [(0,AV.v k0 (D.sl 1 (l.map ei)),none),(3,AV.v false (di ((s.1.length:Nat):Int)),none)]) (fun s => l = s.1 ++ s.2∧colsB s.2 = colsB l) (fun s => s.2.length) ([],l) (by simp) ⟨rfl,rfl⟩ ?_
 rintro ⟨pre,rest⟩ ⟨h1,h2⟩
 simp only at h1 h2
 subst h1
 simp only [List.length_append,List.length_cons] at h
 rcases rest with _ | ⟨d,rest⟩
 ·unfold pl268_0
  simp only [colsB] at h2
  repeat' first|refine Zs ?_|((with_reducible refine Xk fun K k=>?_);simp;(repeat' (with_reducible first|refine k _ ?_|(refine psel ?_ ?_<;>(intro hc;(try rw [Decidable.not_not] at hc);first|(exfalso;omega)|(try simp [hc])))));all_goals clear k K)|refine Xt rfl ?_|refine Xf rfl ?_|(refine We rfl ?_ ?_<;>(intro hc;(try simp at hc);(all_goals first|(exfalso;omega)|skip)))
  simp_all [pf268,colsOk]
 ·unfold pl268_0
  simp only [List.length_cons] at h
  simp only [colsB] at h2
  have hw:=Wi ((pre.length:Int) + 1) (by omega) (by omega)
  repeat' first|refine Zs ?_|((with_reducible refine Xk fun K k=>?_);simp [hw];(repeat' (with_reducible first|refine k _ ?_|(refine psel ?_ ?_<;>(intro hc;(try rw [Decidable.not_not] at hc);first|(exfalso;omega)|(try simp [hc,hw])))));all_goals clear k K)|refine Xt rfl ?_|refine Xf rfl ?_|(refine We rfl ?_ ?_<;>(intro hc;(try simp at hc);(all_goals first|(exfalso;omega)|skip)))
  all_goals first | (refine ⟨(pre ++ [d],rest),?_,⟨?_,?_⟩,?_⟩; (focus (first | (simp; done) | (simp_all; done))); (focus (simp; done)); (focus (refine Eq.trans ?_ h2; clear h2; first | (simp [*]; done) | (simp_all; done) | (split <;> simp_all <;> omega) | (split <;> first | (exfalso; omega) | (simp_all; done)))); (focus (simp; done))) | (split at h2 <;> first | (exfalso; omega) | (simp_all [pf268,colsOk]; done))

attribute [irreducible] colsOk

theorem split_at {α:Type} (l:List α) (i:Nat) (h:i < l.length):∃ pre x rest,l = pre ++ x :: rest∧pre.length = i :=
 ⟨l.take i,l[i],l.drop (i + 1),by simp,by simp; omega⟩

def thereF (B:List XBuf) (buf gen kind many:Int):Bool:=decide (0≤buf) && match B[buf.toNat]? with
 | some b => b.Gen == gen && b.Kind == kind && (kind != 1 || (b.C.L.length:Int) == many)
 | none => false

theorem thereF_out {B:List XBuf} {buf gen kind many:Int} (h:¬ (0≤buf∧buf < (B.length:Int))):thereF B buf gen kind many = false:=by
 unfold thereF
 by_cases h0:0≤buf
 ·rw [List.getElem?_eq_none (by omega)]; simp
 ·simp [h0]

@[simp] theorem t59 (k0:Bool) (ad:List Int) (ae af:Int) (ag x_T:Int) (x_E ah:Int) (ai:List XRef) (x_B:List XBuf) (x_M:List Int) (x_X:List XDead) (x_P:List Int) (aj:List XTask) (ak:List XDeed) (a aa:Int) (ab al ac:Int) (h:x_B.length≤1048576):Gw TT 59 [.st [.ro k0 (.sl 1 (ad.map ei)),.ro false (di ae),.ro false (di af),.ro false (di ag),.ro false (di x_T),.ro false (di x_E),.ro false (di ah),.ro k0 (.sl 5 (ai.map XRef.e)),.ro k0 (.sl 5 (x_B.map XBuf.e)),.ro k0 (.sl 1 (x_M.map ei)),.ro k0 (.sl 3 (x_X.map XDead.e)),.ro k0 (.sl 1 (x_P.map ei)),.ro k0 (.sl 25 (aj.map XTask.e)),.ro k0 (.sl 25 (ak.map XDeed.e))],.st [.ro false (di a),.ro false (di aa),.ro false (di ab),.ro false (di al),.ro false (di ac)]] = some (vb (thereF x_B a aa ab ac),[]):=by
 refine Ga pf59 pb59 ?_
 unfold pb59
 by_cases hb:0≤a∧a < (x_B.length:Int)
 ·obtain ⟨pre,b,rest,rfl,hp⟩:=split_at x_B a.toNat (by omega)
  obtain rfl:a = (pre.length:Int):=by omega
  simp only [List.length_append,List.length_cons] at h hb
  have hw:=Wi ((pre.length:Int) + ((rest.length:Int) + 1) - 1)
  refine Uc hw ?_ ?_ ?_ ?_
  all_goals repeat intro hc
  all_goals simp_all [pf59,thereF]
 ·have hf:=thereF_out (gen:=aa) (kind:=ab) (many:=ac) hb
  have hw:=Wi ((x_B.length:Int) - 1)
  refine Uc hw ?_ ?_
  all_goals repeat intro hc
  all_goals simp_all [pf59]

@[simp] theorem t340 (k0:Bool) (ad:List Int) (ae af:Int) (ag x_T:Int) (x_E ah:Int) (ai:List XRef) (x_B:List XBuf) (x_M:List Int) (x_X:List XDead) (x_P:List Int) (aj:List XTask) (ak:List XDeed) (a aa:Int) (ab al ac:Int) (h:x_B.length≤1048576):Gw TT 340 [.st [.ro k0 (.sl 1 (ad.map ei)),.ro false (di ae),.ro false (di af),.ro false (di ag),.ro false (di x_T),.ro false (di x_E),.ro false (di ah),.ro k0 (.sl 5 (ai.map XRef.e)),.ro k0 (.sl 5 (x_B.map XBuf.e)),.ro k0 (.sl 1 (x_M.map ei)),.ro k0 (.sl 3 (x_X.map XDead.e)),.ro k0 (.sl 1 (x_P.map ei)),.ro k0 (.sl 25 (aj.map XTask.e)),.ro k0 (.sl 25 (ak.map XDeed.e))],.st [.ro false (di a),.ro false (di aa),.ro false (di ab),.ro false (di al),.ro false (di ac)]] = some (vb (thereF x_B a aa ab ac),[]):=by
 refine Ga pf340 pb340 ?_
 unfold pb340
 by_cases hb:0≤a∧a < (x_B.length:Int)
 ·obtain ⟨pre,b,rest,rfl,hp⟩:=split_at x_B a.toNat (by omega)
  obtain rfl:a = (pre.length:Int):=by omega
  simp only [List.length_append,List.length_cons] at h hb
  have hw:=Wi ((pre.length:Int) + ((rest.length:Int) + 1) - 1)
  refine Uc hw ?_ ?_ ?_ ?_
  all_goals repeat intro hc
  all_goals simp_all [pf340,thereF]
 ·have hf:=thereF_out (gen:=aa) (kind:=ab) (many:=ac) hb
  have hw:=Wi ((x_B.length:Int) - 1)
  refine Uc hw ?_
  repeat intro hc
  simp_all [pf340]

@[simp] theorem take_mid {α:Type} {n:Nat} (l r:List α) (h:n = l.length):(l ++ r).take n = l:=by subst h; simp

def valEq (a b:XVal):Bool:=a.Ty == b.Ty && (a.N == b.N && a.S.toList == b.S.toList)
def intEq (a b:Int):Bool:=a == b

def strOf (l:List Int):ByteArray:=⟨(l.map fun n => UInt8.ofNat n.toNat).toArray⟩

@[simp] theorem bytesStr_map (l:List Int):bytesStr (l.map eb) = some (l.map fun n => UInt8.ofNat n.toNat):=by
 induction l with
 | nil => rfl
 | cons n l ih =>
  have:bytesStr (List.map eb (n :: l)) = match bytesStr (l.map eb) with
   | some bs => some (UInt8.ofNat n.toNat :: bs)
   | none => none:=rfl
  rw [this,ih]; try rfl

@[simp] theorem t1 (k0 k1:Bool) (l m:List Int):Gw TT 1 [.one (.ro k0 (.sl 1 (l.map eb))),.one (.ro k1 (.sl 1 (m.map eb)))] = some (vb ((strOf l).toList == (strOf m).toList),[]):=by
 refine Ga pf1 pb1 ?_
 unfold pb1
 refine Ua Oo ?_
 simp_all [pf1,strOf]

@[simp] theorem t402 (k0 k1:Bool) (l m:List Int):Gw TT 402 [.one (.ro k0 (.sl 1 (l.map eb))),.one (.ro k1 (.sl 1 (m.map eb)))] = some (vb ((strOf l).toList == (strOf m).toList),[]):=by
 refine Ga pf402 pb402 ?_
 unfold pb402
 refine Ua Oo ?_
 simp_all [pf402,strOf]

def isChunkB (B:List XBuf) (r:XRef):Bool:=r.Kind == 1 && thereF B r.Buf r.Gen r.Kind r.Many

theorem isChunk_get {B:List XBuf} {r:XRef} (h:isChunkB B r = true):∃ pre b rest,B = pre ++ b :: rest∧r.Buf = (pre.length:Int)∧r.Kind = 1∧b.Gen = r.Gen∧b.Kind = r.Kind∧(b.C.L.length:Int) = r.Many:=by
 simp only [isChunkB,Bool.and_eq_true,beq_iff_eq] at h
 obtain ⟨h1,h2⟩:=h
 by_cases hb:0≤r.Buf∧r.Buf < (B.length:Int)
 ·obtain ⟨pre,b,rest,rfl,hp⟩:=split_at B r.Buf.toNat (by omega)
  have hq:r.Buf = (pre.length:Int):=by omega
  refine ⟨pre,b,rest,rfl,hq,h1,?_⟩
  simp [thereF,hq,h1] at h2
  exact ⟨h2.1.1,by rw [h1]; exact h2.1.2,h2.2⟩
 ·rw [thereF_out hb] at h2; cases h2

theorem isChunk_at {B:List XBuf} {r:XRef} (h:isChunkB B r = true):∃ b,B[r.Buf.toNat]? = some b∧0≤r.Buf∧r.Buf < (B.length:Int)∧b ∈ B:=by
 obtain ⟨pre,b,rest,rfl,h2,_⟩:=isChunk_get h
 refine ⟨b,by rw [h2]; simp,by omega,by rw [h2]; simp; omega,by simp⟩

theorem t68_yes (k0:Bool) (ae:List Int) (af ag:Int) (ah x_T:Int) (x_E ai:Int) (aj:List XRef) (x_B:List XBuf) (x_M:List Int) (x_X:List XDead) (x_P:List Int) (ak:List XTask) (al:List XDeed) (a aa:Int) (ab ac ad:Int) (h:x_B.length≤1048576) (hc:isChunkB x_B ⟨a,aa,ab,ac,ad⟩ = true) (b:XBuf) (hb:x_B[a.toNat]? = some b) :
  Gw TT 68 [.st [.ro k0 (.sl 1 (ae.map ei)),.ro false (di af),.ro false (di ag),.ro false (di ah),.ro false (di x_T),.ro false (di x_E),.ro false (di ai),.ro k0 (.sl 5 (aj.map XRef.e)),.ro k0 (.sl 5 (x_B.map XBuf.e)),.ro k0 (.sl 1 (x_M.map ei)),.ro k0 (.sl 3 (x_X.map XDead.e)),.ro k0 (.sl 1 (x_P.map ei)),.ro k0 (.sl 25 (ak.map XTask.e)),.ro k0 (.sl 25 (al.map XDeed.e))],.st [.ro false (di a),.ro false (di aa),.ro false (di ab),.ro false (di ac),.ro false (di ad)]] = some (.tup [.st [.ro false (di b.C.Next),.ro k0 (.sl 2 (b.C.L.map XSlot.e))],vb true],[]):=by
 have hc2:=hc
 simp only [isChunkB,Bool.and_eq_true,beq_iff_eq] at hc2
 obtain ⟨hk,ht⟩:=hc2
 obtain ⟨_,_,hb0,hb1,_⟩:=isChunk_at hc
 simp only at hb0 hb1
 obtain ⟨hlt,he⟩:=List.getElem?_eq_some_iff.1 hb
 refine Ga pf68 pb68 ?_
 unfold pb68
 refine Uw (J6 h ht hk hb0 hb1 he) ?_ ?_
 all_goals repeat intro hc
 all_goals first | (simp [pf68,he]; done) | (simp_all; done)

theorem t68_no (k0:Bool) (ae:List Int) (af ag:Int) (ah x_T:Int) (x_E ai:Int) (aj:List XRef) (x_B:List XBuf) (x_M:List Int) (x_X:List XDead) (x_P:List Int) (ak:List XTask) (al:List XDeed) (a aa:Int) (ab ac ad:Int) (h:x_B.length≤1048576) (hc:isChunkB x_B ⟨a,aa,ab,ac,ad⟩ = false) :
  Gw TT 68 [.st [.ro k0 (.sl 1 (ae.map ei)),.ro false (di af),.ro false (di ag),.ro false (di ah),.ro false (di x_T),.ro false (di x_E),.ro false (di ai),.ro k0 (.sl 5 (aj.map XRef.e)),.ro k0 (.sl 5 (x_B.map XBuf.e)),.ro k0 (.sl 1 (x_M.map ei)),.ro k0 (.sl 3 (x_X.map XDead.e)),.ro k0 (.sl 1 (x_P.map ei)),.ro k0 (.sl 25 (ak.map XTask.e)),.ro k0 (.sl 25 (al.map XDeed.e))],.st [.ro false (di a),.ro false (di aa),.ro false (di ab),.ro false (di ac),.ro false (di ad)]] = some (.tup [.st [.ro false (di 0),.own (.sl 2 [])],vb false],[]):=by
 simp only [isChunkB,Bool.and_eq_false_iff] at hc
 refine Ga pf68 pb68 ?_
 unfold pb68
 refine Ud h ?_ ?_ ?_ ?_
 all_goals repeat intro hc
 all_goals first | (simp [pf68]; done) | (exfalso; simp_all; done)

@[simp] theorem t78 (k0:Bool) (a:Int) (x_L:List XSlot) (i:Int):Gw TT 78 [.st [.ro false (di a),.ro k0 (.sl 2 (x_L.map XSlot.e))],vi i] = some (vb (decide (0≤i) && decide (i < (x_L.length:Int))),[]):=by
 refine Ga pf78 pb78 ?_
 unfold pb78
 refine Ud Oo ?_ ?_
 all_goals repeat intro hc
 all_goals first | (simp_all [pf78]; done) | (simp_all [pf78]; omega)

@[simp] theorem flatD_nil:flatD [] = true:=rfl

@[simp] theorem flatD_map {α:Type} (f:α→List D) (l:List α) (h:∀ x,(f x).all D.scal = true):flatD (l.map f) = true:=by
 simp only [flatD,List.all_map,List.all_eq_true,Function.comp]
 exact fun x _ => List.all_eq_true.1 (h x)

@[simp] theorem flatD_one (e:List D) (l:List (List D)):flatD (e :: l) = (e.all D.scal && flatD l):=rfl

@[simp] theorem flatD_app (l m:List (List D)):flatD (l ++ m) = (flatD l && flatD m):=by simp [flatD]

@[simp] theorem live_int (k:IntKind) (n:Int):(D.int k n).live = true:=rfl

@[simp] theorem live_bool (b:Bool):(D.bool b).live = true:=rfl

@[simp] theorem live_str (s:ByteArray):(D.str s).live = true:=rfl

@[simp] theorem live_sl (sz:Nat) (es:List (List D)):(D.sl sz es).live = true:=rfl

def digF (k:Nat) (out:ByteArray):ByteArray :=
 if h:k = 0 then out else digF (k / 10) (⟨#[UInt8.ofNat (IntKind.wrap .u8 (48 + ((k:Int).tmod 10))).toNat]⟩ ++ out)
termination_by k
decreasing_by omega

def mtext (k:Int):ByteArray:=if k≤0 then ⟨#[109,48]⟩ else ⟨#[109]⟩ ++ digF k.toNat ⟨#[]⟩

@[simp] theorem ba_one (x:UInt8):(ByteArray.mk #[x]).size = 1:=rfl

theorem digF_zero (out:ByteArray):digF 0 out = out:=by unfold digF; simp

theorem digF_succ (k:Nat) (out:ByteArray) (h:k ≠ 0):digF k out = digF (k / 10) (⟨#[UInt8.ofNat (IntKind.wrap .u8 (48 + ((k:Int).tmod 10))).toNat]⟩ ++ out):=by
 rw [digF]; simp [h]

@[simp] theorem t196 (k:Int) (h:k≤4611686018427387904):Gw TT 196 [vi k] = some (.one (.ro false (.str (mtext k))),[]):=by
  refine Ga pf196 pb196 ?_
  unfold pb196
  refine Ud Oo ?_ ?_
  all_goals repeat intro hc
  · simp [pf196,mtext, *]
  · refine wp_loopI (σ:=Nat × ByteArray) (fun s => [(0,AV.v false (di ((s.1:Nat):Int)),none),(3,AV.v false (.str s.2),none)]) (fun s => digF s.1 s.2 = digF k.toNat ⟨#[]⟩∧s.1 + s.2.size≤k.toNat) (fun s => s.1) (k.toNat,⟨#[]⟩) (by simp; omega) ⟨rfl,Nat.le_refl _⟩ ?_
    rintro ⟨n,out⟩ ⟨h1,h2⟩
    simp only at h1 h2
    unfold pl196_0
    have ht:(n:Int).tmod 10 = (n:Int) % 10:=Int.tmod_eq_emod_of_nonneg (by omega)
    have hq:IntKind.wrap .i64 (48 + (n:Int).tmod 10) = 48 + (n:Int).tmod 10:=by rw [ht]; exact wrap_i64 (by omega) (by omega)
    have hd:IntKind.wrap .i64 ((n:Int).tdiv 10) = ((n / 10:Nat):Int):=by rw [Int.tdiv_eq_ediv_of_nonneg (by omega)]; rw [wrap_i64 (by omega) (by omega)]; omega
    have hs1:(9223372036854775807 < 1 + (out.size:Int)) = False:=by simp only [eq_iff_iff,iff_false]; omega
    have hd2:=Wi ((n:Int) / 10)
    refine Ud (J3 hq hd hs1) ?_ ?_
    all_goals repeat intro hc
    all_goals first | (exact ⟨(n / 10,⟨#[UInt8.ofNat (IntKind.wrap .u8 (48 + (n:Int).tmod 10)).toNat]⟩ ++ out),by simp [hd2],⟨by rw [← h1,digF_succ n out (by omega)],by simp only [ByteArray.size_append,ba_one]; omega⟩,by simp only; omega⟩) | skip
    all_goals first | (exfalso; omega) | (subst hc; rw [digF_zero] at h1; have hk:¬ k≤0:=by omega
                                          subst h1; simp [pf196,mtext,hk]; done)

def ctByte:Int→Int
 | d => 1

def ctBytes:List Int→Int
 | [] => 0
 | x :: l => ctByte x + ctBytes l

def mkByte:Int→Int→Int
 | k,d => IntKind.wrap .u8 k

def mkBytes:Int→List Int→List Int
 | _,[] => []
 | k,x :: l => mkByte k x :: mkBytes (k + ctByte x) l

theorem ctByte_pos:∀ x:Int,1≤ctByte x
 | d => by simp only [ctByte]; omega

theorem ctBytes_len:∀ l:List Int,(l.length:Int)≤ctBytes l
 | [] => by simp [ctBytes]
 | x :: l => by have h1:=ctByte_pos x; have h2:=ctBytes_len l; simp only [ctBytes,List.length_cons]; omega

theorem ctBytes_nn (l:List Int):0≤ctBytes l:=by have:=ctBytes_len l; omega

@[simp] theorem mkBytes_len:∀ (k:Int) (l:List Int),(mkBytes k l).length = l.length
 | _,[] => by simp [mkBytes]
 | k,x :: l => by simp [mkBytes,mkBytes_len]

theorem ctBytes_le:∀ l:List Int,ctBytes l = 1 * (l.length:Int)
 | [] => by simp [ctBytes]
 | x :: l => by have h2:=ctBytes_le l; simp only [ctBytes,List.length_cons,ctByte]; omega

theorem chainByte (k1:Int) (h0:0≤k1)  (hB:k1 + (1)≤4611686018427387904) :
  ∃ w1:Int,w1 = k1 + 1∧IntKind.wrap .i64 (k1 + 1) = w1∧k1 + (1) = w1∧0≤w1 :=
 ⟨k1 + 1,rfl,wrap_i64 (by omega) (by omega),by omega,by omega⟩

def ctInt:Int→Int
 | d => 1

def ctInts:List Int→Int
 | [] => 0
 | x :: l => ctInt x + ctInts l

def mkInt:Int→Int→Int
 | k,d => k

def mkInts:Int→List Int→List Int
 | _,[] => []
 | k,x :: l => mkInt k x :: mkInts (k + ctInt x) l

theorem ctInt_pos:∀ x:Int,1≤ctInt x
 | d => by simp only [ctInt]; omega

theorem ctInts_len:∀ l:List Int,(l.length:Int)≤ctInts l
 | [] => by simp [ctInts]
 | x :: l => by have h1:=ctInt_pos x; have h2:=ctInts_len l; simp only [ctInts,List.length_cons]; omega

theorem ctInts_nn (l:List Int):0≤ctInts l:=by have:=ctInts_len l; omega

@[simp] theorem mkInts_len:∀ (k:Int) (l:List Int),(mkInts k l).length = l.length
 | _,[] => by simp [mkInts]
 | k,x :: l => by simp [mkInts,mkInts_len]

theorem ctInts_le:∀ l:List Int,ctInts l = 1 * (l.length:Int)
 | [] => by simp [ctInts]
 | x :: l => by have h2:=ctInts_le l; simp only [ctInts,List.length_cons,ctInt]; omega

theorem chainInt (k1:Int) (h0:0≤k1)  (hB:k1 + (1)≤4611686018427387904) :
  ∃ w1:Int,w1 = k1 + 1∧IntKind.wrap .i64 (k1 + 1) = w1∧k1 + (1) = w1∧0≤w1 :=
 ⟨k1 + 1,rfl,wrap_i64 (by omega) (by omega),by omega,by omega⟩

def ctDead:XDead→Int
 | ⟨y_Buf,y_Gen,y_At⟩ => 1 + 1 + 1

def ctDeads:List XDead→Int
 | [] => 0
 | x :: l => ctDead x + ctDeads l

def mkDead:Int→XDead→XDead
 | k,⟨y_Buf,y_Gen,y_At⟩ => ⟨k,k + 1,k + 1 + 1⟩

def mkDeads:Int→List XDead→List XDead
 | _,[] => []
 | k,x :: l => mkDead k x :: mkDeads (k + ctDead x) l

theorem ctDead_pos:∀ x:XDead,1≤ctDead x
 | ⟨a,aa,ab⟩ => by simp only [ctDead]; omega

theorem ctDeads_len:∀ l:List XDead,(l.length:Int)≤ctDeads l
 | [] => by simp [ctDeads]
 | x :: l => by have h1:=ctDead_pos x; have h2:=ctDeads_len l; simp only [ctDeads,List.length_cons]; omega

theorem ctDeads_nn (l:List XDead):0≤ctDeads l:=by have:=ctDeads_len l; omega

@[simp] theorem mkDeads_len:∀ (k:Int) (l:List XDead),(mkDeads k l).length = l.length
 | _,[] => by simp [mkDeads]
 | k,x :: l => by simp [mkDeads,mkDeads_len]

theorem ctDeads_le:∀ l:List XDead,ctDeads l = 3 * (l.length:Int)
 | [] => by simp [ctDeads]
 | x :: l => by have h2:=ctDeads_le l; simp only [ctDeads,List.length_cons,ctDead]; omega

theorem chainDead (k1:Int) (h0:0≤k1)  (hB:k1 + (1 + 1 + 1)≤4611686018427387904) :
  ∃ w1 w2 w3:Int,w1 = k1 + 1∧IntKind.wrap .i64 (k1 + 1) = w1∧w2 = w1 + 1∧IntKind.wrap .i64 (w1 + 1) = w2∧w3 = w2 + 1∧IntKind.wrap .i64 (w2 + 1) = w3∧k1 + (1 + 1 + 1) = w3∧0≤w3 :=
 ⟨k1 + 1,k1 + 1 + 1,k1 + 1 + 1 + 1,rfl,wrap_i64 (by omega) (by omega),rfl,wrap_i64 (by omega) (by omega),rfl,wrap_i64 (by omega) (by omega),by omega,by omega⟩

def ctRef:XRef→Int
 | ⟨y_Buf,y_Gen,y_Kind,y_First,y_Many⟩ => 1 + 1 + 1 + 1 + 1

def ctRefs:List XRef→Int
 | [] => 0
 | x :: l => ctRef x + ctRefs l

def mkRef:Int→XRef→XRef
 | k,⟨y_Buf,y_Gen,y_Kind,y_First,y_Many⟩ => ⟨k,k + 1,k + 1 + 1,k + 1 + 1 + 1,k + 1 + 1 + 1 + 1⟩

def mkRefs:Int→List XRef→List XRef
 | _,[] => []
 | k,x :: l => mkRef k x :: mkRefs (k + ctRef x) l

theorem ctRef_pos:∀ x:XRef,1≤ctRef x
 | ⟨a,aa,ab,ac,ad⟩ => by simp only [ctRef]; omega

theorem ctRefs_len:∀ l:List XRef,(l.length:Int)≤ctRefs l
 | [] => by simp [ctRefs]
 | x :: l => by have h1:=ctRef_pos x; have h2:=ctRefs_len l; simp only [ctRefs,List.length_cons]; omega

theorem ctRefs_nn (l:List XRef):0≤ctRefs l:=by have:=ctRefs_len l; omega

@[simp] theorem mkRefs_len:∀ (k:Int) (l:List XRef),(mkRefs k l).length = l.length
 | _,[] => by simp [mkRefs]
 | k,x :: l => by simp [mkRefs,mkRefs_len]

theorem ctRefs_le:∀ l:List XRef,ctRefs l = 5 * (l.length:Int)
 | [] => by simp [ctRefs]
 | x :: l => by have h2:=ctRefs_le l; simp only [ctRefs,List.length_cons,ctRef]; omega

theorem chainRef (k1:Int) (h0:0≤k1)  (hB:k1 + (1 + 1 + 1 + 1 + 1)≤4611686018427387904) :
  ∃ w1 w2 w3 w4 w5:Int,w1 = k1 + 1∧IntKind.wrap .i64 (k1 + 1) = w1∧w2 = w1 + 1∧IntKind.wrap .i64 (w1 + 1) = w2∧w3 = w2 + 1∧IntKind.wrap .i64 (w2 + 1) = w3∧w4 = w3 + 1∧IntKind.wrap .i64 (w3 + 1) = w4∧w5 = w4 + 1∧IntKind.wrap .i64 (w4 + 1) = w5∧k1 + (1 + 1 + 1 + 1 + 1) = w5∧0≤w5 :=
 ⟨k1 + 1,k1 + 1 + 1,k1 + 1 + 1 + 1,k1 + 1 + 1 + 1 + 1,k1 + 1 + 1 + 1 + 1 + 1,rfl,wrap_i64 (by omega) (by omega),rfl,wrap_i64 (by omega) (by omega),rfl,wrap_i64 (by omega) (by omega),rfl,wrap_i64 (by omega) (by omega),rfl,wrap_i64 (by omega) (by omega),by omega,by omega⟩

def ctVal:XVal→Int
 | ⟨y_Ty,y_N,y_S⟩ => 1 + 1 + 1

def ctVals:List XVal→Int
 | [] => 0
 | x :: l => ctVal x + ctVals l

def mkVal:Int→XVal→XVal
 | k,⟨y_Ty,y_N,y_S⟩ => ⟨k,k + 1,mtext (k + 1 + 1)⟩

def mkVals:Int→List XVal→List XVal
 | _,[] => []
 | k,x :: l => mkVal k x :: mkVals (k + ctVal x) l

theorem ctVal_pos:∀ x:XVal,1≤ctVal x
 | ⟨a,y_N,y_S⟩ => by simp only [ctVal]; omega

theorem ctVals_len:∀ l:List XVal,(l.length:Int)≤ctVals l
 | [] => by simp [ctVals]
 | x :: l => by have h1:=ctVal_pos x; have h2:=ctVals_len l; simp only [ctVals,List.length_cons]; omega

theorem ctVals_nn (l:List XVal):0≤ctVals l:=by have:=ctVals_len l; omega

@[simp] theorem mkVals_len:∀ (k:Int) (l:List XVal),(mkVals k l).length = l.length
 | _,[] => by simp [mkVals]
 | k,x :: l => by simp [mkVals,mkVals_len]

theorem ctVals_le:∀ l:List XVal,ctVals l = 3 * (l.length:Int)
 | [] => by simp [ctVals]
 | x :: l => by have h2:=ctVals_le l; simp only [ctVals,List.length_cons,ctVal]; omega

theorem chainVal (k1:Int) (h0:0≤k1)  (hB:k1 + (1 + 1 + 1)≤4611686018427387904) :
  ∃ w1 w2 w3:Int,w1 = k1 + 1∧IntKind.wrap .i64 (k1 + 1) = w1∧w2 = w1 + 1∧IntKind.wrap .i64 (w1 + 1) = w2∧w3 = w2 + 1∧IntKind.wrap .i64 (w2 + 1) = w3∧w2≤4611686018427387904∧k1 + (1 + 1 + 1) = w3∧0≤w3 :=
 ⟨k1 + 1,k1 + 1 + 1,k1 + 1 + 1 + 1,rfl,wrap_i64 (by omega) (by omega),rfl,wrap_i64 (by omega) (by omega),rfl,wrap_i64 (by omega) (by omega),by omega,by omega,by omega⟩

def ctSlot:XSlot→Int
 | ⟨y_Ins,y_L⟩ => 1 + ctVals y_L

def ctSlots:List XSlot→Int
 | [] => 0
 | x :: l => ctSlot x + ctSlots l

def mkSlot:Int→XSlot→XSlot
 | k,⟨y_Ins,y_L⟩ => ⟨k,mkVals (k + 1) y_L⟩

def mkSlots:Int→List XSlot→List XSlot
 | _,[] => []
 | k,x :: l => mkSlot k x :: mkSlots (k + ctSlot x) l

theorem ctSlot_pos:∀ x:XSlot,1≤ctSlot x
 | ⟨a,y_L⟩ => by have aa:=ctVals_nn y_L; simp only [ctSlot]; omega

theorem ctSlots_len:∀ l:List XSlot,(l.length:Int)≤ctSlots l
 | [] => by simp [ctSlots]
 | x :: l => by have h1:=ctSlot_pos x; have h2:=ctSlots_len l; simp only [ctSlots,List.length_cons]; omega

theorem ctSlots_nn (l:List XSlot):0≤ctSlots l:=by have:=ctSlots_len l; omega

@[simp] theorem mkSlots_len:∀ (k:Int) (l:List XSlot),(mkSlots k l).length = l.length
 | _,[] => by simp [mkSlots]
 | k,x :: l => by simp [mkSlots,mkSlots_len]

theorem chainSlot (k1 a:Int) (h0:0≤k1) (aa:0≤a) (hB:k1 + (1 + a)≤4611686018427387904) :
  ∃ w1 w2:Int,w1 = k1 + 1∧IntKind.wrap .i64 (k1 + 1) = w1∧w2 = w1 + a∧0≤w1∧w2≤4611686018427387904∧¬ w2 < 0∧k1 + (1 + a) = w2∧0≤w2 :=
 ⟨k1 + 1,k1 + 1 + a,rfl,wrap_i64 (by omega) (by omega),rfl,by omega,by omega,by omega,by omega,by omega⟩

def ctBuf:XBuf→Int
 | ⟨y_Gen,y_Kind,⟨y_C_Next,y_C_L⟩,y_G⟩ => 1 + 1 + 1 + ctSlots y_C_L + ctBytes y_G

def ctBufs:List XBuf→Int
 | [] => 0
 | x :: l => ctBuf x + ctBufs l

def mkBuf:Int→XBuf→XBuf
 | k,⟨y_Gen,y_Kind,⟨y_C_Next,y_C_L⟩,y_G⟩ => ⟨k,k + 1,⟨k + 1 + 1,mkSlots (k + 1 + 1 + 1) y_C_L⟩,mkBytes (k + 1 + 1 + 1 + ctSlots y_C_L) y_G⟩

def mkBufs:Int→List XBuf→List XBuf
 | _,[] => []
 | k,x :: l => mkBuf k x :: mkBufs (k + ctBuf x) l

theorem ctBuf_pos:∀ x:XBuf,1≤ctBuf x
 | ⟨aa,ab,⟨ac,a⟩,y_G⟩ => by have ad:=ctSlots_nn a; have ae:=ctBytes_nn y_G; simp only [ctBuf]; omega

theorem ctBufs_len:∀ l:List XBuf,(l.length:Int)≤ctBufs l
 | [] => by simp [ctBufs]
 | x :: l => by have h1:=ctBuf_pos x; have h2:=ctBufs_len l; simp only [ctBufs,List.length_cons]; omega

theorem ctBufs_nn (l:List XBuf):0≤ctBufs l:=by have:=ctBufs_len l; omega

@[simp] theorem mkBufs_len:∀ (k:Int) (l:List XBuf),(mkBufs k l).length = l.length
 | _,[] => by simp [mkBufs]
 | k,x :: l => by simp [mkBufs,mkBufs_len]

theorem chainBuf (k1 a aa:Int) (h0:0≤k1) (ab:0≤a) (ac:0≤aa) (hB:k1 + (1 + 1 + 1 + a + aa)≤4611686018427387904) :
  ∃ w1 w2 w3 w4 w5:Int,w1 = k1 + 1∧IntKind.wrap .i64 (k1 + 1) = w1∧w2 = w1 + 1∧IntKind.wrap .i64 (w1 + 1) = w2∧w3 = w2 + 1∧IntKind.wrap .i64 (w2 + 1) = w3∧w4 = w3 + a∧0≤w3∧w4≤4611686018427387904∧¬ w4 < 0∧w5 = w4 + aa∧0≤w4∧w5≤4611686018427387904∧¬ w5 < 0∧k1 + (1 + 1 + 1 + a + aa) = w5∧0≤w5 :=
 ⟨k1 + 1,k1 + 1 + 1,k1 + 1 + 1 + 1,k1 + 1 + 1 + 1 + a,k1 + 1 + 1 + 1 + a + aa,rfl,wrap_i64 (by omega) (by omega),rfl,wrap_i64 (by omega) (by omega),rfl,wrap_i64 (by omega) (by omega),rfl,by omega,by omega,by omega,rfl,by omega,by omega,by omega,by omega,by omega⟩

def ctRow:XRow→Int
 | ⟨y_Id,y_L⟩ => 1 + ctVals y_L

def ctRows:List XRow→Int
 | [] => 0
 | x :: l => ctRow x + ctRows l

def mkRow:Int→XRow→XRow
 | k,⟨y_Id,y_L⟩ => ⟨k,mkVals (k + 1) y_L⟩

def mkRows:Int→List XRow→List XRow
 | _,[] => []
 | k,x :: l => mkRow k x :: mkRows (k + ctRow x) l

theorem ctRow_pos:∀ x:XRow,1≤ctRow x
 | ⟨a,y_L⟩ => by have aa:=ctVals_nn y_L; simp only [ctRow]; omega

theorem ctRows_len:∀ l:List XRow,(l.length:Int)≤ctRows l
 | [] => by simp [ctRows]
 | x :: l => by have h1:=ctRow_pos x; have h2:=ctRows_len l; simp only [ctRows,List.length_cons]; omega

theorem ctRows_nn (l:List XRow):0≤ctRows l:=by have:=ctRows_len l; omega

@[simp] theorem mkRows_len:∀ (k:Int) (l:List XRow),(mkRows k l).length = l.length
 | _,[] => by simp [mkRows]
 | k,x :: l => by simp [mkRows,mkRows_len]

theorem chainRow (k1 a:Int) (h0:0≤k1) (aa:0≤a) (hB:k1 + (1 + a)≤4611686018427387904) :
  ∃ w1 w2:Int,w1 = k1 + 1∧IntKind.wrap .i64 (k1 + 1) = w1∧w2 = w1 + a∧0≤w1∧w2≤4611686018427387904∧¬ w2 < 0∧k1 + (1 + a) = w2∧0≤w2 :=
 ⟨k1 + 1,k1 + 1 + a,rfl,wrap_i64 (by omega) (by omega),rfl,by omega,by omega,by omega,by omega,by omega⟩

@[simp] theorem t184 (l:List Int) (k:Int) (h0:0≤k) (hc:k + ctBytes l≤4611686018427387904):Gw TT 184 [.one (.own (.sl 1 (l.map eb))),vi k] = some (vi (k + ctBytes l),[(0,0,.own (.sl 1 ((mkBytes k l).map eb)))]):=by
  refine Ga pf184 pb184 ?_
  unfold pb184
  generalize hM:mkBytes k l = M
  have hlen:=ctBytes_len l
  refine Ud Oo ?_
  · refine wp_loopI (σ:=List Int × List Int × Int) (fun s => [(0,AV.pl 0 0 [],some (Rt.vir [C.own (D.sl 1 (s.1.map eb ++ s.2.1.map eb))])),(1,AV.v false (di s.2.2),none),(5,AV.v false (di ((s.1.length:Nat):Int)),none)]) (fun s => M = s.1 ++ mkBytes s.2.2 s.2.1∧s.2.2 + ctBytes s.2.1 = k + ctBytes l∧s.1.length + s.2.1.length = l.length∧0≤s.2.2) (fun s => s.2.1.length) ([],l,k) (by simp) ⟨hM.symm,rfl,by simp,h0⟩ ?_
    rintro ⟨pre,rest,k1⟩ ⟨h1,h2,h3,h4⟩
    simp only at h1 h2 h3 h4
    rcases rest with _ | ⟨d,rest⟩
    · unfold pl184_0
      simp only [mkBytes,ctBytes,List.append_nil,Int.add_zero] at h1 h2
      subst h1
      refine Ud Oo ?_
      repeat intro hc
      all_goals simp [pf184,h2]
    · unfold pl184_0
      simp only [mkBytes,ctBytes,mkByte,ctByte,List.length_cons] at h1 h2 h3
      have hnr:=ctBytes_nn rest
      have hw:=Wi ((pre.length:Int) + 1)
      have hlt:(pre.length:Int) < (pre.length:Int) + ((rest.length:Int) + 1):=by omega
      have hl2:(pre ++ [mkByte k1 d]).length + rest.length = l.length:=by simp only [List.length_append,List.length_cons,List.length_nil]; omega
      have hB2:k1 + (1) + ctBytes rest = k + ctBytes l:=by omega
      obtain ⟨w1,hv0,hw0,hE,hZ⟩:=chainByte k1  h4  (by omega)
      rw [hE] at h1 hB2
      try simp only [← hv0] at h1
      subst h1
      repeat' (first
        | with_reducible (first | refine wp_seq ?_ | refine wp_blk ?_ | refine wp_skip ?_ | refine wp_exit ?_ | refine wp_ret ?_ | refine seqQ_norm ?_ | refine seqQ_ret ?_ | refine seqQ_exit ?_ | refine blkQ_norm ?_ | refine blkQ_ret ?_ | refine blkQ_exit ?_ | refine loopQ_norm ?_ | refine loopQ_exit ?_ | refine loopQ_ret ?_ | refine endQ_ret ?_ | refine endQ_norm ?_ | refine endE_ret ?_ | refine endE_norm ?_ | refine endI_ret ?_ | refine endI_norm ?_)
        | (with_reducible refine wp_regK fun K hK => ?_
           simp[hw0,hw,hlt]
           repeat' (with_reducible first | refine hK _ ?_ | (refine psel ?_ ?_ <;> (intro hc; (try rw [Decidable.not_not] at hc); first | (try simp [hc,hw0,hw,hlt]))))
           all_goals (clear hK; clear K))
        | (with_reducible refine wp_condE ?_
           refine ⟨_,rfl,?_,?_⟩ <;> (intro hc; (try simp at hc); skip)))
      exact ⟨(pre ++ [mkByte k1 d],rest,w1),by simp [mkByte,hv0],⟨by simp [mkByte,hv0],hB2,hl2,hZ⟩,by simp⟩

@[simp] theorem t190 (l:List Int) (k:Int) (h0:0≤k) (hc:k + ctInts l≤4611686018427387904):Gw TT 190 [.one (.own (.sl 1 (l.map ei))),vi k] = some (vi (k + ctInts l),[(0,0,.own (.sl 1 ((mkInts k l).map ei)))]):=by
  refine Ga pf190 pb190 ?_
  unfold pb190
  generalize hM:mkInts k l = M
  have hlen:=ctInts_len l
  refine Ud Oo ?_
  · refine wp_loopI (σ:=List Int × List Int × Int) (fun s => [(0,AV.pl 0 0 [],some (Rt.vir [C.own (D.sl 1 (s.1.map ei ++ s.2.1.map ei))])),(1,AV.v false (di s.2.2),none),(5,AV.v false (di ((s.1.length:Nat):Int)),none)]) (fun s => M = s.1 ++ mkInts s.2.2 s.2.1∧s.2.2 + ctInts s.2.1 = k + ctInts l∧s.1.length + s.2.1.length = l.length∧0≤s.2.2) (fun s => s.2.1.length) ([],l,k) (by simp) ⟨hM.symm,rfl,by simp,h0⟩ ?_
    rintro ⟨pre,rest,k1⟩ ⟨h1,h2,h3,h4⟩
    simp only at h1 h2 h3 h4
    rcases rest with _ | ⟨d,rest⟩
    · unfold pl190_0
      simp only [mkInts,ctInts,List.append_nil,Int.add_zero] at h1 h2
      subst h1
      refine Ud Oo ?_
      repeat intro hc
      all_goals simp [pf190,h2]
    · unfold pl190_0
      simp only [mkInts,ctInts,mkInt,ctInt,List.length_cons] at h1 h2 h3
      have hnr:=ctInts_nn rest
      have hw:=Wi ((pre.length:Int) + 1)
      have hlt:(pre.length:Int) < (pre.length:Int) + ((rest.length:Int) + 1):=by omega
      have hl2:(pre ++ [mkInt k1 d]).length + rest.length = l.length:=by simp only [List.length_append,List.length_cons,List.length_nil]; omega
      have hB2:k1 + (1) + ctInts rest = k + ctInts l:=by omega
      obtain ⟨w1,hv0,hw0,hE,hZ⟩:=chainInt k1  h4  (by omega)
      rw [hE] at h1 hB2
      try simp only [← hv0] at h1
      subst h1
      repeat' (first
        | with_reducible (first | refine wp_seq ?_ | refine wp_blk ?_ | refine wp_skip ?_ | refine wp_exit ?_ | refine wp_ret ?_ | refine seqQ_norm ?_ | refine seqQ_ret ?_ | refine seqQ_exit ?_ | refine blkQ_norm ?_ | refine blkQ_ret ?_ | refine blkQ_exit ?_ | refine loopQ_norm ?_ | refine loopQ_exit ?_ | refine loopQ_ret ?_ | refine endQ_ret ?_ | refine endQ_norm ?_ | refine endE_ret ?_ | refine endE_norm ?_ | refine endI_ret ?_ | refine endI_norm ?_)
        | (with_reducible refine wp_regK fun K hK => ?_
           simp[hw0,hw,hlt]
           repeat' (with_reducible first | refine hK _ ?_ | (refine psel ?_ ?_ <;> (intro hc; (try rw [Decidable.not_not] at hc); first | (try simp [hc,hw0,hw,hlt]))))
           all_goals (clear hK; clear K))
        | (with_reducible refine wp_condE ?_
           refine ⟨_,rfl,?_,?_⟩ <;> (intro hc; (try simp at hc); skip)))
      exact ⟨(pre ++ [mkInt k1 d],rest,w1),by simp [mkInt,hv0],⟨by simp [mkInt,hv0],hB2,hl2,hZ⟩,by simp⟩

@[simp] theorem t187 (l:List XDead) (k:Int) (h0:0≤k) (hc:k + ctDeads l≤4611686018427387904):Gw TT 187 [.one (.own (.sl 3 (l.map XDead.e))),vi k] = some (vi (k + ctDeads l),[(0,0,.own (.sl 3 ((mkDeads k l).map XDead.e)))]):=by
  refine Ga pf187 pb187 ?_
  unfold pb187
  generalize hM:mkDeads k l = M
  have hlen:=ctDeads_len l
  refine Ud Oo ?_
  · refine wp_loopI (σ:=List XDead × List XDead × Int) (fun s => [(0,AV.pl 0 0 [],some (Rt.vir [C.own (D.sl 3 (s.1.map XDead.e ++ s.2.1.map XDead.e))])),(1,AV.v false (di s.2.2),none),(5,AV.v false (di ((s.1.length:Nat):Int)),none)]) (fun s => M = s.1 ++ mkDeads s.2.2 s.2.1∧s.2.2 + ctDeads s.2.1 = k + ctDeads l∧s.1.length + s.2.1.length = l.length∧0≤s.2.2) (fun s => s.2.1.length) ([],l,k) (by simp) ⟨hM.symm,rfl,by simp,h0⟩ ?_
    rintro ⟨pre,rest,k1⟩ ⟨h1,h2,h3,h4⟩
    simp only at h1 h2 h3 h4
    rcases rest with _ | ⟨⟨a,aa,ab⟩,rest⟩
    · unfold pl187_0
      simp only [mkDeads,ctDeads,List.append_nil,Int.add_zero] at h1 h2
      subst h1
      refine Ud Oo ?_
      repeat intro hc
      all_goals simp [pf187,h2]
    · unfold pl187_0
      simp only [mkDeads,ctDeads,mkDead,ctDead,List.length_cons] at h1 h2 h3
      have hnr:=ctDeads_nn rest
      have hw:=Wi ((pre.length:Int) + 1)
      have hlt:(pre.length:Int) < (pre.length:Int) + ((rest.length:Int) + 1):=by omega
      have hl2:(pre ++ [mkDead k1 ⟨a,aa,ab⟩]).length + rest.length = l.length:=by simp only [List.length_append,List.length_cons,List.length_nil]; omega
      have hB2:k1 + (1 + 1 + 1) + ctDeads rest = k + ctDeads l:=by omega
      obtain ⟨w1,w2,w3,hv0,hw0,hv1,hw1,hv2,hw2,hE,hZ⟩:=chainDead k1  h4  (by omega)
      rw [hE] at h1 hB2
      try simp only [← hv0,← hv1,← hv2] at h1
      subst h1
      repeat' (first
        | with_reducible (first | refine wp_seq ?_ | refine wp_blk ?_ | refine wp_skip ?_ | refine wp_exit ?_ | refine wp_ret ?_ | refine seqQ_norm ?_ | refine seqQ_ret ?_ | refine seqQ_exit ?_ | refine blkQ_norm ?_ | refine blkQ_ret ?_ | refine blkQ_exit ?_ | refine loopQ_norm ?_ | refine loopQ_exit ?_ | refine loopQ_ret ?_ | refine endQ_ret ?_ | refine endQ_norm ?_ | refine endE_ret ?_ | refine endE_norm ?_ | refine endI_ret ?_ | refine endI_norm ?_)
        | (with_reducible refine wp_regK fun K hK => ?_
           simp[hw0,hw1,hw2,hw,hlt]
           repeat' (with_reducible first | refine hK _ ?_ | (refine psel ?_ ?_ <;> (intro hc; (try rw [Decidable.not_not] at hc); first | (try simp [hc,hw0,hw1,hw2,hw,hlt]))))
           all_goals (clear hK; clear K))
        | (with_reducible refine wp_condE ?_
           refine ⟨_,rfl,?_,?_⟩ <;> (intro hc; (try simp at hc); skip)))
      exact ⟨(pre ++ [mkDead k1 ⟨a,aa,ab⟩],rest,w3),by simp [mkDead,hv0,hv1,hv2],⟨by simp [mkDead,hv0,hv1,hv2],hB2,hl2,hZ⟩,by simp⟩

@[simp] theorem t192 (l:List XRef) (k:Int) (h0:0≤k) (hc:k + ctRefs l≤4611686018427387904):Gw TT 192 [.one (.own (.sl 5 (l.map XRef.e))),vi k] = some (vi (k + ctRefs l),[(0,0,.own (.sl 5 ((mkRefs k l).map XRef.e)))]):=by
  refine Ga pf192 pb192 ?_
  unfold pb192
  generalize hM:mkRefs k l = M
  have hlen:=ctRefs_len l
  refine Ud Oo ?_
  · refine wp_loopI (σ:=List XRef × List XRef × Int) (fun s => [(0,AV.pl 0 0 [],some (Rt.vir [C.own (D.sl 5 (s.1.map XRef.e ++ s.2.1.map XRef.e))])),(1,AV.v false (di s.2.2),none),(5,AV.v false (di ((s.1.length:Nat):Int)),none)]) (fun s => M = s.1 ++ mkRefs s.2.2 s.2.1∧s.2.2 + ctRefs s.2.1 = k + ctRefs l∧s.1.length + s.2.1.length = l.length∧0≤s.2.2) (fun s => s.2.1.length) ([],l,k) (by simp) ⟨hM.symm,rfl,by simp,h0⟩ ?_
    rintro ⟨pre,rest,k1⟩ ⟨h1,h2,h3,h4⟩
    simp only at h1 h2 h3 h4
    rcases rest with _ | ⟨⟨a,aa,ab,ac,ad⟩,rest⟩
    · unfold pl192_0
      simp only [mkRefs,ctRefs,List.append_nil,Int.add_zero] at h1 h2
      subst h1
      refine Ud Oo ?_
      repeat intro hc
      all_goals simp [pf192,h2]
    · unfold pl192_0
      simp only [mkRefs,ctRefs,mkRef,ctRef,List.length_cons] at h1 h2 h3
      have hnr:=ctRefs_nn rest
      have hw:=Wi ((pre.length:Int) + 1)
      have hlt:(pre.length:Int) < (pre.length:Int) + ((rest.length:Int) + 1):=by omega
      have hl2:(pre ++ [mkRef k1 ⟨a,aa,ab,ac,ad⟩]).length + rest.length = l.length:=by simp only [List.length_append,List.length_cons,List.length_nil]; omega
      have hB2:k1 + (1 + 1 + 1 + 1 + 1) + ctRefs rest = k + ctRefs l:=by omega
      obtain ⟨w1,w2,w3,w4,w5,hv0,hw0,hv1,hw1,hv2,hw2,hv3,hw3,hv4,hw4,hE,hZ⟩:=chainRef k1  h4  (by omega)
      rw [hE] at h1 hB2
      try simp only [← hv0,← hv1,← hv2,← hv3,← hv4] at h1
      subst h1
      repeat' (first
        | with_reducible (first | refine wp_seq ?_ | refine wp_blk ?_ | refine wp_skip ?_ | refine wp_exit ?_ | refine wp_ret ?_ | refine seqQ_norm ?_ | refine seqQ_ret ?_ | refine seqQ_exit ?_ | refine blkQ_norm ?_ | refine blkQ_ret ?_ | refine blkQ_exit ?_ | refine loopQ_norm ?_ | refine loopQ_exit ?_ | refine loopQ_ret ?_ | refine endQ_ret ?_ | refine endQ_norm ?_ | refine endE_ret ?_ | refine endE_norm ?_ | refine endI_ret ?_ | refine endI_norm ?_)
        | (with_reducible refine wp_regK fun K hK => ?_
           simp[hw0,hw1,hw2,hw3,hw4,hw,hlt]
           repeat' (with_reducible first | refine hK _ ?_ | (refine psel ?_ ?_ <;> (intro hc; (try rw [Decidable.not_not] at hc); first | (try simp [hc,hw0,hw1,hw2,hw3,hw4,hw,hlt]))))
           all_goals (clear hK; clear K))
        | (with_reducible refine wp_condE ?_
           refine ⟨_,rfl,?_,?_⟩ <;> (intro hc; (try simp at hc); skip)))
      exact ⟨(pre ++ [mkRef k1 ⟨a,aa,ab,ac,ad⟩],rest,w5),by simp [mkRef,hv0,hv1,hv2,hv3,hv4],⟨by simp [mkRef,hv0,hv1,hv2,hv3,hv4],hB2,hl2,hZ⟩,by simp⟩

@[simp] theorem t197 (l:List XVal) (k:Int) (h0:0≤k) (hc:k + ctVals l≤4611686018427387904):Gw TT 197 [.one (.own (.sl 3 (l.map XVal.e))),vi k] = some (vi (k + ctVals l),[(0,0,.own (.sl 3 ((mkVals k l).map XVal.e)))]):=by
  refine Ga pf197 pb197 ?_
  unfold pb197
  generalize hM:mkVals k l = M
  have hlen:=ctVals_len l
  refine Ud Oo ?_
  · refine wp_loopI (σ:=List XVal × List XVal × Int) (fun s => [(0,AV.pl 0 0 [],some (Rt.vir [C.own (D.sl 3 (s.1.map XVal.e ++ s.2.1.map XVal.e))])),(1,AV.v false (di s.2.2),none),(5,AV.v false (di ((s.1.length:Nat):Int)),none)]) (fun s => M = s.1 ++ mkVals s.2.2 s.2.1∧s.2.2 + ctVals s.2.1 = k + ctVals l∧s.1.length + s.2.1.length = l.length∧0≤s.2.2) (fun s => s.2.1.length) ([],l,k) (by simp) ⟨hM.symm,rfl,by simp,h0⟩ ?_
    rintro ⟨pre,rest,k1⟩ ⟨h1,h2,h3,h4⟩
    simp only at h1 h2 h3 h4
    rcases rest with _ | ⟨⟨a,y_N,y_S⟩,rest⟩
    · unfold pl197_0
      simp only [mkVals,ctVals,List.append_nil,Int.add_zero] at h1 h2
      subst h1
      refine Ud Oo ?_
      repeat intro hc
      all_goals simp [pf197,h2]
    · unfold pl197_0
      simp only [mkVals,ctVals,mkVal,ctVal,List.length_cons] at h1 h2 h3
      have hnr:=ctVals_nn rest
      have hw:=Wi ((pre.length:Int) + 1)
      have hlt:(pre.length:Int) < (pre.length:Int) + ((rest.length:Int) + 1):=by omega
      have hl2:(pre ++ [mkVal k1 ⟨a,y_N,y_S⟩]).length + rest.length = l.length:=by simp only [List.length_append,List.length_cons,List.length_nil]; omega
      have hB2:k1 + (1 + 1 + 1) + ctVals rest = k + ctVals l:=by omega
      obtain ⟨w1,w2,w3,hv0,hw0,hv1,hw1,hv2,hw2,ht2,hE,hZ⟩:=chainVal k1  h4  (by omega)
      rw [hE] at h1 hB2
      try simp only [← hv0,← hv1,← hv2] at h1
      subst h1
      repeat' (first
        | with_reducible (first | refine wp_seq ?_ | refine wp_blk ?_ | refine wp_skip ?_ | refine wp_exit ?_ | refine wp_ret ?_ | refine seqQ_norm ?_ | refine seqQ_ret ?_ | refine seqQ_exit ?_ | refine blkQ_norm ?_ | refine blkQ_ret ?_ | refine blkQ_exit ?_ | refine loopQ_norm ?_ | refine loopQ_exit ?_ | refine loopQ_ret ?_ | refine endQ_ret ?_ | refine endQ_norm ?_ | refine endE_ret ?_ | refine endE_norm ?_ | refine endI_ret ?_ | refine endI_norm ?_)
        | (with_reducible refine wp_regK fun K hK => ?_
           simp[hw0,hw1,hw2,ht2,hw,hlt]
           repeat' (with_reducible first | refine hK _ ?_ | (refine psel ?_ ?_ <;> (intro hc; (try rw [Decidable.not_not] at hc); first | (try simp [hc,hw0,hw1,hw2,ht2,hw,hlt]))))
           all_goals (clear hK; clear K))
        | (with_reducible refine wp_condE ?_
           refine ⟨_,rfl,?_,?_⟩ <;> (intro hc; (try simp at hc); skip)))
      exact ⟨(pre ++ [mkVal k1 ⟨a,y_N,y_S⟩],rest,w3),by simp [mkVal,hv0,hv1,hv2],⟨by simp [mkVal,hv0,hv1,hv2],hB2,hl2,hZ⟩,by simp⟩

@[simp] theorem t181 (k0:Bool) (l:List XVal) (k:Int) (h0:0≤k) (hc:k + ctVals l≤4611686018427387904):Gw TT 181 [.one (.ro k0 (.sl 3 ((mkVals k l).map XVal.e))),vi k] = some (vi (k + ctVals l),[]):=by
  refine Ga pf181 pb181 ?_
  unfold pb181
  generalize hM:mkVals k l = M
  have hlen:=ctVals_len l
  refine Ud Oo ?_
  · refine wp_loopI (σ:=List XVal × List XVal × Int) (fun s => [(0,AV.v k0 (D.sl 3 (M.map XVal.e)),none),(1,AV.v false (di s.2.2),none),(5,AV.v false (di ((s.1.length:Nat):Int)),none)]) (fun s => M = s.1 ++ mkVals s.2.2 s.2.1∧s.2.2 + ctVals s.2.1 = k + ctVals l∧s.1.length + s.2.1.length = l.length∧0≤s.2.2) (fun s => s.2.1.length) ([],l,k) (by simp [hM]) ⟨hM.symm,rfl,by simp,h0⟩ ?_
    rintro ⟨pre,rest,k1⟩ ⟨h1,h2,h3,h4⟩
    simp only at h1 h2 h3 h4
    rcases rest with _ | ⟨⟨a,y_N,y_S⟩,rest⟩
    · unfold pl181_0
      simp only [mkVals,ctVals,List.append_nil,Int.add_zero] at h1 h2
      subst h1
      refine Ud Oo ?_
      repeat intro hc
      all_goals simp [pf181,h2]
    · unfold pl181_0
      simp only [mkVals,ctVals,mkVal,ctVal,List.length_cons] at h1 h2 h3
      have hnr:=ctVals_nn rest
      have hw:=Wi ((pre.length:Int) + 1)
      have hlt:(pre.length:Int) < (pre.length:Int) + ((rest.length:Int) + 1):=by omega
      have hl2:(pre ++ [mkVal k1 ⟨a,y_N,y_S⟩]).length + rest.length = l.length:=by simp only [List.length_append,List.length_cons,List.length_nil]; omega
      have hB2:k1 + (1 + 1 + 1) + ctVals rest = k + ctVals l:=by omega
      obtain ⟨w1,w2,w3,hv0,hw0,hv1,hw1,hv2,hw2,ht2,hE,hZ⟩:=chainVal k1  h4  (by omega)
      rw [hE] at h1 hB2
      try simp only [← hv0,← hv1,← hv2] at h1
      subst h1
      repeat' (first
        | with_reducible (first | refine wp_seq ?_ | refine wp_blk ?_ | refine wp_skip ?_ | refine wp_exit ?_ | refine wp_ret ?_ | refine seqQ_norm ?_ | refine seqQ_ret ?_ | refine seqQ_exit ?_ | refine blkQ_norm ?_ | refine blkQ_ret ?_ | refine blkQ_exit ?_ | refine loopQ_norm ?_ | refine loopQ_exit ?_ | refine loopQ_ret ?_ | refine endQ_ret ?_ | refine endQ_norm ?_ | refine endE_ret ?_ | refine endE_norm ?_ | refine endI_ret ?_ | refine endI_norm ?_)
        | (with_reducible refine wp_regK fun K hK => ?_
           simp[hw0,hw1,hw2,ht2,hw,hlt]
           repeat' (with_reducible first | refine hK _ ?_ | (refine psel ?_ ?_ <;> (intro hc; (try rw [Decidable.not_not] at hc); first | (try simp [hc,hw0,hw1,hw2,ht2,hw,hlt]))))
           all_goals (clear hK; clear K))
        | (with_reducible refine wp_condE ?_
           refine ⟨_,rfl,?_,?_⟩ <;> (intro hc; (try simp at hc); skip)))
      exact ⟨(pre ++ [mkVal k1 ⟨a,y_N,y_S⟩],rest,w3),by simp [mkVal,hv0,hv1,hv2],⟨by simp [mkVal,hv0,hv1,hv2],hB2,hl2,hZ⟩,by simp⟩

@[simp] theorem t194 (l:List XSlot) (k:Int) (h0:0≤k) (hc:k + ctSlots l≤4611686018427387904):Gw TT 194 [.one (.own (.sl 2 (l.map XSlot.e))),vi k] = some (vi (k + ctSlots l),[(0,0,.own (.sl 2 ((mkSlots k l).map XSlot.e)))]):=by
  refine Ga pf194 pb194 ?_
  unfold pb194
  generalize hM:mkSlots k l = M
  have hlen:=ctSlots_len l
  refine Ud Oo ?_
  · refine wp_loopI (σ:=List XSlot × List XSlot × Int) (fun s => [(0,AV.pl 0 0 [],some (Rt.vir [C.own (D.sl 2 (s.1.map XSlot.e ++ s.2.1.map XSlot.e))])),(1,AV.v false (di s.2.2),none),(5,AV.v false (di ((s.1.length:Nat):Int)),none)]) (fun s => M = s.1 ++ mkSlots s.2.2 s.2.1∧s.2.2 + ctSlots s.2.1 = k + ctSlots l∧s.1.length + s.2.1.length = l.length∧0≤s.2.2) (fun s => s.2.1.length) ([],l,k) (by simp) ⟨hM.symm,rfl,by simp,h0⟩ ?_
    rintro ⟨pre,rest,k1⟩ ⟨h1,h2,h3,h4⟩
    simp only at h1 h2 h3 h4
    rcases rest with _ | ⟨⟨a,y_L⟩,rest⟩
    · unfold pl194_0
      simp only [mkSlots,ctSlots,List.append_nil,Int.add_zero] at h1 h2
      subst h1
      refine Ud Oo ?_
      repeat intro hc
      all_goals simp [pf194,h2]
    · unfold pl194_0
      simp only [mkSlots,ctSlots,mkSlot,ctSlot,List.length_cons] at h1 h2 h3
      have hnr:=ctSlots_nn rest
      have hw:=Wi ((pre.length:Int) + 1)
      have hlt:(pre.length:Int) < (pre.length:Int) + ((rest.length:Int) + 1):=by omega
      have hl2:(pre ++ [mkSlot k1 ⟨a,y_L⟩]).length + rest.length = l.length:=by simp only [List.length_append,List.length_cons,List.length_nil]; omega
      have hB2:k1 + (1 + ctVals y_L) + ctSlots rest = k + ctSlots l:=by omega
      obtain ⟨w1,w2,hv0,hw0,hv1,hz1,hy1,hg1,hE,hZ⟩:=chainSlot k1 (ctVals y_L) h4 (ctVals_nn y_L) (by omega)
      rw [hE] at h1 hB2
      try simp only [← hv0,← hv1] at h1
      subst h1
      repeat' (first
        | with_reducible (first | refine wp_seq ?_ | refine wp_blk ?_ | refine wp_skip ?_ | refine wp_exit ?_ | refine wp_ret ?_ | refine seqQ_norm ?_ | refine seqQ_ret ?_ | refine seqQ_exit ?_ | refine blkQ_norm ?_ | refine blkQ_ret ?_ | refine blkQ_exit ?_ | refine loopQ_norm ?_ | refine loopQ_exit ?_ | refine loopQ_ret ?_ | refine endQ_ret ?_ | refine endQ_norm ?_ | refine endE_ret ?_ | refine endE_norm ?_ | refine endI_ret ?_ | refine endI_norm ?_)
        | (with_reducible refine wp_regK fun K hK => ?_
           simp[hw0,hz1,hy1,hg1,← hv1,hw,hlt]
           repeat' (with_reducible first | refine hK _ ?_ | (refine psel ?_ ?_ <;> (intro hc; (try rw [Decidable.not_not] at hc); first | (try simp [hc,hw0,hz1,hy1,hg1,← hv1,hw,hlt]))))
           all_goals (clear hK; clear K))
        | (with_reducible refine wp_condE ?_
           refine ⟨_,rfl,?_,?_⟩ <;> (intro hc; (try simp at hc); skip)))
      exact ⟨(pre ++ [mkSlot k1 ⟨a,y_L⟩],rest,w2),by simp [mkSlot,hv0,hv1],⟨by simp [mkSlot,hv0,hv1],hB2,hl2,hZ⟩,by simp⟩

@[simp] theorem t183 (l:List XBuf) (k:Int) (h0:0≤k) (hc:k + ctBufs l≤4611686018427387904):Gw TT 183 [.one (.own (.sl 5 (l.map XBuf.e))),vi k] = some (vi (k + ctBufs l),[(0,0,.own (.sl 5 ((mkBufs k l).map XBuf.e)))]):=by
  refine Ga pf183 pb183 ?_
  unfold pb183
  generalize hM:mkBufs k l = M
  have hlen:=ctBufs_len l
  refine Ud Oo ?_
  · refine wp_loopI (σ:=List XBuf × List XBuf × Int) (fun s => [(0,AV.pl 0 0 [],some (Rt.vir [C.own (D.sl 5 (s.1.map XBuf.e ++ s.2.1.map XBuf.e))])),(1,AV.v false (di s.2.2),none),(5,AV.v false (di ((s.1.length:Nat):Int)),none)]) (fun s => M = s.1 ++ mkBufs s.2.2 s.2.1∧s.2.2 + ctBufs s.2.1 = k + ctBufs l∧s.1.length + s.2.1.length = l.length∧0≤s.2.2) (fun s => s.2.1.length) ([],l,k) (by simp) ⟨hM.symm,rfl,by simp,h0⟩ ?_
    rintro ⟨pre,rest,k1⟩ ⟨h1,h2,h3,h4⟩
    simp only at h1 h2 h3 h4
    rcases rest with _ | ⟨⟨aa,ab,⟨ac,a⟩,y_G⟩,rest⟩
    · unfold pl183_0
      simp only [mkBufs,ctBufs,List.append_nil,Int.add_zero] at h1 h2
      subst h1
      refine Ud Oo ?_
      repeat intro hc
      all_goals simp [pf183,h2]
    · unfold pl183_0
      simp only [mkBufs,ctBufs,mkBuf,ctBuf,List.length_cons] at h1 h2 h3
      have hnr:=ctBufs_nn rest
      have hw:=Wi ((pre.length:Int) + 1)
      have hlt:(pre.length:Int) < (pre.length:Int) + ((rest.length:Int) + 1):=by omega
      have hl2:(pre ++ [mkBuf k1 ⟨aa,ab,⟨ac,a⟩,y_G⟩]).length + rest.length = l.length:=by simp only [List.length_append,List.length_cons,List.length_nil]; omega
      have hB2:k1 + (1 + 1 + 1 + ctSlots a + ctBytes y_G) + ctBufs rest = k + ctBufs l:=by omega
      obtain ⟨w1,w2,w3,w4,w5,hv0,hw0,hv1,hw1,hv2,hw2,hv3,hz3,hy3,hg3,hv4,hz4,hy4,hg4,hE,hZ⟩:=chainBuf k1 (ctSlots a) (ctBytes y_G) h4 (ctSlots_nn a) (ctBytes_nn y_G) (by omega)
      rw [hE] at h1 hB2
      try simp only [← hv0,← hv1,← hv2,← hv3,← hv4] at h1
      subst h1
      repeat' (first
        | with_reducible (first | refine wp_seq ?_ | refine wp_blk ?_ | refine wp_skip ?_ | refine wp_exit ?_ | refine wp_ret ?_ | refine seqQ_norm ?_ | refine seqQ_ret ?_ | refine seqQ_exit ?_ | refine blkQ_norm ?_ | refine blkQ_ret ?_ | refine blkQ_exit ?_ | refine loopQ_norm ?_ | refine loopQ_exit ?_ | refine loopQ_ret ?_ | refine endQ_ret ?_ | refine endQ_norm ?_ | refine endE_ret ?_ | refine endE_norm ?_ | refine endI_ret ?_ | refine endI_norm ?_)
        | (with_reducible refine wp_regK fun K hK => ?_
           simp[hw0,hw1,hw2,hz3,hy3,hg3,← hv3,hz4,hy4,hg4,← hv4,hw,hlt]
           repeat' (with_reducible first | refine hK _ ?_ | (refine psel ?_ ?_ <;> (intro hc; (try rw [Decidable.not_not] at hc); first | (try simp [hc,hw0,hw1,hw2,hz3,hy3,hg3,← hv3,hz4,hy4,hg4,← hv4,hw,hlt]))))
           all_goals (clear hK; clear K))
        | (with_reducible refine wp_condE ?_
           refine ⟨_,rfl,?_,?_⟩ <;> (intro hc; (try simp at hc); skip)))
      exact ⟨(pre ++ [mkBuf k1 ⟨aa,ab,⟨ac,a⟩,y_G⟩],rest,w5),by simp [mkBuf,hv0,hv1,hv2,hv3,hv4],⟨by simp [mkBuf,hv0,hv1,hv2,hv3,hv4],hB2,hl2,hZ⟩,by simp⟩

@[simp] theorem t193 (l:List XRow) (k:Int) (h0:0≤k) (hc:k + ctRows l≤4611686018427387904):Gw TT 193 [.one (.own (.sl 2 (l.map XRow.e))),vi k] = some (vi (k + ctRows l),[(0,0,.own (.sl 2 ((mkRows k l).map XRow.e)))]):=by
  refine Ga pf193 pb193 ?_
  unfold pb193
  generalize hM:mkRows k l = M
  have hlen:=ctRows_len l
  refine Ud Oo ?_
  · refine wp_loopI (σ:=List XRow × List XRow × Int) (fun s => [(0,AV.pl 0 0 [],some (Rt.vir [C.own (D.sl 2 (s.1.map XRow.e ++ s.2.1.map XRow.e))])),(1,AV.v false (di s.2.2),none),(5,AV.v false (di ((s.1.length:Nat):Int)),none)]) (fun s => M = s.1 ++ mkRows s.2.2 s.2.1∧s.2.2 + ctRows s.2.1 = k + ctRows l∧s.1.length + s.2.1.length = l.length∧0≤s.2.2) (fun s => s.2.1.length) ([],l,k) (by simp) ⟨hM.symm,rfl,by simp,h0⟩ ?_
    rintro ⟨pre,rest,k1⟩ ⟨h1,h2,h3,h4⟩
    simp only at h1 h2 h3 h4
    rcases rest with _ | ⟨⟨a,y_L⟩,rest⟩
    · unfold pl193_0
      simp only [mkRows,ctRows,List.append_nil,Int.add_zero] at h1 h2
      subst h1
      refine Ud Oo ?_
      repeat intro hc
      all_goals simp [pf193,h2]
    · unfold pl193_0
      simp only [mkRows,ctRows,mkRow,ctRow,List.length_cons] at h1 h2 h3
      have hnr:=ctRows_nn rest
      have hw:=Wi ((pre.length:Int) + 1)
      have hlt:(pre.length:Int) < (pre.length:Int) + ((rest.length:Int) + 1):=by omega
      have hl2:(pre ++ [mkRow k1 ⟨a,y_L⟩]).length + rest.length = l.length:=by simp only [List.length_append,List.length_cons,List.length_nil]; omega
      have hB2:k1 + (1 + ctVals y_L) + ctRows rest = k + ctRows l:=by omega
      obtain ⟨w1,w2,hv0,hw0,hv1,hz1,hy1,hg1,hE,hZ⟩:=chainRow k1 (ctVals y_L) h4 (ctVals_nn y_L) (by omega)
      rw [hE] at h1 hB2
      try simp only [← hv0,← hv1] at h1
      subst h1
      repeat' (first
        | with_reducible (first | refine wp_seq ?_ | refine wp_blk ?_ | refine wp_skip ?_ | refine wp_exit ?_ | refine wp_ret ?_ | refine seqQ_norm ?_ | refine seqQ_ret ?_ | refine seqQ_exit ?_ | refine blkQ_norm ?_ | refine blkQ_ret ?_ | refine blkQ_exit ?_ | refine loopQ_norm ?_ | refine loopQ_exit ?_ | refine loopQ_ret ?_ | refine endQ_ret ?_ | refine endQ_norm ?_ | refine endE_ret ?_ | refine endE_norm ?_ | refine endI_ret ?_ | refine endI_norm ?_)
        | (with_reducible refine wp_regK fun K hK => ?_
           simp[hw0,hz1,hy1,hg1,← hv1,hw,hlt]
           repeat' (with_reducible first | refine hK _ ?_ | (refine psel ?_ ?_ <;> (intro hc; (try rw [Decidable.not_not] at hc); first | (try simp [hc,hw0,hz1,hy1,hg1,← hv1,hw,hlt]))))
           all_goals (clear hK; clear K))
        | (with_reducible refine wp_condE ?_
           refine ⟨_,rfl,?_,?_⟩ <;> (intro hc; (try simp at hc); skip)))
      exact ⟨(pre ++ [mkRow k1 ⟨a,y_L⟩],rest,w2),by simp [mkRow,hv0,hv1],⟨by simp [mkRow,hv0,hv1],hB2,hl2,hZ⟩,by simp⟩

@[simp] theorem t189 (a:Int) (x_L:List XRef) (k:Int) (h0:0≤k) (hc:k + ctRefs x_L≤4611686018427387904):Gw TT 189 [.st [.ro false (di a),.own (.sl 5 (x_L.map XRef.e))],vi k] = some (vi (k + ctRefs x_L),[(0,1,.own (.sl 5 ((mkRefs (k) x_L).map XRef.e)))]):=by
 refine Ga pf189 pb189 ?_
 unfold pb189
 have aa:=ctRefs_nn x_L
 have hz1:0≤k:=by omega
 have hy1:k + ctRefs x_L≤4611686018427387904:=by omega
 refine Ud (J2 hz1 hy1) ?_
 simp [pf189]

@[simp] theorem t186 (a:List Int) (aa ab k:Int) (h0:0≤k) (hc:k + ctInts a≤4611686018427387904):Gw TT 186 [.st [.own (.sl 1 (a.map ei)),.ro false (di aa),.ro false (di ab)],vi k] = some (vi (k + ctInts a),[(0,0,.own (.sl 1 ((mkInts (k) a).map ei)))]):=by
 refine Ga pf186 pb186 ?_
 unfold pb186
 have ac:=ctInts_nn a
 have hz0:0≤k:=by omega
 have hy0:k + ctInts a≤4611686018427387904:=by omega
 refine Ud (J2 hz0 hy0) ?_
 simp [pf186]

@[simp] theorem take_all1 {α:Type} {n:Nat} (l r:List α) (x:α) (h:n = l.length + (r.length + 1)):(l ++ x :: r).take n = l ++ x :: r:=by
 rw [List.take_of_length_le]
 simp only [List.length_append,List.length_cons]
 omega

@[simp] theorem drop_mid1 {α:Type} {n:Nat} (l r:List α) (x:α) (h:n = l.length + 1):(l ++ x :: r).drop n = r:=by
 subst h
 rw [List.drop_append]
 simp

@[simp] theorem take_len_map {α β:Type} (f:α→β) (l:List α):(l.map f).take l.length = l.map f:=by
 rw [List.take_of_length_le]; simp

@[simp] theorem flatD_drop_map {α:Type} (f:α→List D) (l:List α) (n:Nat) (h:∀ x,(f x).all D.scal = true):flatD ((l.map f).drop n) = true:=by
 rw [← List.map_drop]; exact flatD_map f _ h

@[simp] theorem flatD_take_map {α:Type} (f:α→List D) (l:List α) (n:Nat) (h:∀ x,(f x).all D.scal = true):flatD ((l.map f).take n) = true:=by
 rw [← List.map_take]; exact flatD_map f _ h

@[simp] theorem t76 (k0:Bool) (l:List XVal) (h:l.length≤1048576):Gw TT 76 [.one (.ro k0 (.sl 3 (l.map XVal.e)))] = some (.one (.own (.sl 3 (l.map XVal.e))),[]):=by
  refine Gw_of (F:=pf76) rfl rfl ?_
  show Wp _ pb76 _ _
  unfold pb76
  repeat' first|refine Zs ?_|((with_reducible refine Xk fun K k=>?_);simp [h];(repeat' (with_reducible first|refine k _ ?_|(refine psel ?_ ?_<;>(intro hc;(try rw [Decidable.not_not] at hc);first|(exfalso;omega)|(try simp [hc,h])))));all_goals clear k K)|refine Xt rfl ?_|refine Xf rfl ?_
  simp [pf76]

@[simp] theorem t69 (k0:Bool) (l:List Int) (h:l.length≤1048576):Gw TT 69 [.one (.ro k0 (.sl 1 (l.map eb)))] = some (.one (.own (.sl 1 (l.map eb))),[]):=by
  refine Gw_of (F:=pf69) rfl rfl ?_
  show Wp _ pb69 _ _
  unfold pb69
  repeat' first|refine Zs ?_|((with_reducible refine Xk fun K k=>?_);simp [h];(repeat' (with_reducible first|refine k _ ?_|(refine psel ?_ ?_<;>(intro hc;(try rw [Decidable.not_not] at hc);first|(exfalso;omega)|(try simp [hc,h])))));all_goals clear k K)|refine Xt rfl ?_|refine Xf rfl ?_
  simp [pf69]

mutual
def ctPred:XPred→Int
 | ⟨_,_,_,_,l⟩ => 1 + 1 + 1 + 1 + 1 + 1 + ctPreds l
def ctPreds:List XPred→Int
 | [] => 0
 | x :: l => ctPred x + ctPreds l
end

mutual
def mkPred:Int→XPred→XPred
 | k,⟨y_Kind,y_Col,y_Op,⟨y_V_Ty,y_V_N,y_V_S⟩,y_L⟩ => ⟨k,k + 1,k + 1 + 1,⟨k + 1 + 1 + 1,k + 1 + 1 + 1 + 1,mtext (k + 1 + 1 + 1 + 1 + 1)⟩,mkPreds (k + 1 + 1 + 1 + 1 + 1 + 1) y_L⟩
def mkPreds:Int→List XPred→List XPred
 | _,[] => []
 | k,x :: l => mkPred k x :: mkPreds (k + ctPred x) l
end

mutual
theorem ctPred_pos:∀ x:XPred,1≤ctPred x
 | ⟨_,_,_,_,l⟩ => by have:=ctPreds_nn l; simp only [ctPred]; omega
theorem ctPreds_nn:∀ l:List XPred,0≤ctPreds l
 | [] => by simp [ctPreds]
 | x :: l => by have h1:=ctPred_pos x; have h2:=ctPreds_nn l; simp only [ctPreds]; omega
end

theorem ctPreds_len:∀ l:List XPred,(l.length:Int)≤ctPreds l
 | [] => by simp [ctPreds]
 | x :: l => by have h1:=ctPred_pos x; have h2:=ctPreds_len l; simp only [ctPreds,List.length_cons]; omega

@[simp] theorem mkPreds_len:∀ (k:Int) (l:List XPred),(mkPreds k l).length = l.length
 | _,[] => by simp [mkPreds]
 | k,x :: l => by simp [mkPreds,mkPreds_len]

theorem chainPred (k1 a:Int) (h0:0≤k1) (aa:0≤a) (hB:k1 + (1 + 1 + 1 + 1 + 1 + 1 + a)≤4611686018427387904) :
  ∃ w1 w2 w3 w4 w5 w6 w7:Int,w1 = k1 + 1∧IntKind.wrap .i64 (k1 + 1) = w1∧w2 = w1 + 1∧IntKind.wrap .i64 (w1 + 1) = w2∧w3 = w2 + 1∧IntKind.wrap .i64 (w2 + 1) = w3∧w4 = w3 + 1∧IntKind.wrap .i64 (w3 + 1) = w4∧w5 = w4 + 1∧IntKind.wrap .i64 (w4 + 1) = w5∧w6 = w5 + 1∧IntKind.wrap .i64 (w5 + 1) = w6∧w5≤4611686018427387904∧w7 = w6 + a∧0≤w6∧w7≤4611686018427387904∧¬ w7 < 0∧k1 + (1 + 1 + 1 + 1 + 1 + 1 + a) = w7∧0≤w7 :=
 ⟨k1 + 1,k1 + 1 + 1,k1 + 1 + 1 + 1,k1 + 1 + 1 + 1 + 1,k1 + 1 + 1 + 1 + 1 + 1,k1 + 1 + 1 + 1 + 1 + 1 + 1,k1 + 1 + 1 + 1 + 1 + 1 + 1 + a,rfl,wrap_i64 (by omega) (by omega),rfl,wrap_i64 (by omega) (by omega),rfl,wrap_i64 (by omega) (by omega),rfl,wrap_i64 (by omega) (by omega),rfl,wrap_i64 (by omega) (by omega),rfl,wrap_i64 (by omega) (by omega),by omega,rfl,by omega,by omega,by omega,by omega,by omega⟩

def ctTask:XTask→Int
 | ⟨y_Op,y_Pc,y_H,y_R,y_Id,⟨y_Q_Kind,⟨y_Q_P_Kind,y_Q_P_Col,y_Q_P_Op,⟨y_Q_P_V_Ty,y_Q_P_V_N,y_Q_P_V_S⟩,y_Q_P_L⟩,y_Q_Col,y_Q_Out⟩,y_Ts,y_Ver,y_L,y_I,y_J,y_S,y_At,y_Own,y_Won,y_Got⟩ => 1 + 1 + 1 + ctVals y_R + 1 + 1 + 1 + 1 + 1 + 1 + 1 + 1 + ctPreds y_Q_P_L + 1 + ctInts y_Q_Out + 1 + 1 + ctRefs y_L + 1 + 1 + 1 + 1 + 1 + 1 + ctRows y_Got

def ctTasks:List XTask→Int
 | [] => 0
 | x :: l => ctTask x + ctTasks l

def mkTask:Int→XTask→XTask
 | k,⟨y_Op,y_Pc,y_H,y_R,y_Id,⟨y_Q_Kind,⟨y_Q_P_Kind,y_Q_P_Col,y_Q_P_Op,⟨y_Q_P_V_Ty,y_Q_P_V_N,y_Q_P_V_S⟩,y_Q_P_L⟩,y_Q_Col,y_Q_Out⟩,y_Ts,y_Ver,y_L,y_I,y_J,y_S,y_At,y_Own,y_Won,y_Got⟩ => ⟨k,k + 1,k + 1 + 1,mkVals (k + 1 + 1 + 1) y_R,k + 1 + 1 + 1 + ctVals y_R,⟨k + 1 + 1 + 1 + ctVals y_R + 1,⟨k + 1 + 1 + 1 + ctVals y_R + 1 + 1,k + 1 + 1 + 1 + ctVals y_R + 1 + 1 + 1,k + 1 + 1 + 1 + ctVals y_R + 1 + 1 + 1 + 1,⟨k + 1 + 1 + 1 + ctVals y_R + 1 + 1 + 1 + 1 + 1,k + 1 + 1 + 1 + ctVals y_R + 1 + 1 + 1 + 1 + 1 + 1,mtext (k + 1 + 1 + 1 + ctVals y_R + 1 + 1 + 1 + 1 + 1 + 1 + 1)⟩,mkPreds (k + 1 + 1 + 1 + ctVals y_R + 1 + 1 + 1 + 1 + 1 + 1 + 1 + 1) y_Q_P_L⟩,k + 1 + 1 + 1 + ctVals y_R + 1 + 1 + 1 + 1 + 1 + 1 + 1 + 1 + ctPreds y_Q_P_L,mkInts (k + 1 + 1 + 1 + ctVals y_R + 1 + 1 + 1 + 1 + 1 + 1 + 1 + 1 + ctPreds y_Q_P_L + 1) y_Q_Out⟩,k + 1 + 1 + 1 + ctVals y_R + 1 + 1 + 1 + 1 + 1 + 1 + 1 + 1 + ctPreds y_Q_P_L + 1 + ctInts y_Q_Out,k + 1 + 1 + 1 + ctVals y_R + 1 + 1 + 1 + 1 + 1 + 1 + 1 + 1 + ctPreds y_Q_P_L + 1 + ctInts y_Q_Out + 1,mkRefs (k + 1 + 1 + 1 + ctVals y_R + 1 + 1 + 1 + 1 + 1 + 1 + 1 + 1 + ctPreds y_Q_P_L + 1 + ctInts y_Q_Out + 1 + 1) y_L,k + 1 + 1 + 1 + ctVals y_R + 1 + 1 + 1 + 1 + 1 + 1 + 1 + 1 + ctPreds y_Q_P_L + 1 + ctInts y_Q_Out + 1 + 1 + ctRefs y_L,k + 1 + 1 + 1 + ctVals y_R + 1 + 1 + 1 + 1 + 1 + 1 + 1 + 1 + ctPreds y_Q_P_L + 1 + ctInts y_Q_Out + 1 + 1 + ctRefs y_L + 1,k + 1 + 1 + 1 + ctVals y_R + 1 + 1 + 1 + 1 + 1 + 1 + 1 + 1 + ctPreds y_Q_P_L + 1 + ctInts y_Q_Out + 1 + 1 + ctRefs y_L + 1 + 1,k + 1 + 1 + 1 + ctVals y_R + 1 + 1 + 1 + 1 + 1 + 1 + 1 + 1 + ctPreds y_Q_P_L + 1 + ctInts y_Q_Out + 1 + 1 + ctRefs y_L + 1 + 1 + 1,k + 1 + 1 + 1 + ctVals y_R + 1 + 1 + 1 + 1 + 1 + 1 + 1 + 1 + ctPreds y_Q_P_L + 1 + ctInts y_Q_Out + 1 + 1 + ctRefs y_L + 1 + 1 + 1 + 1,((k + 1 + 1 + 1 + ctVals y_R + 1 + 1 + 1 + 1 + 1 + 1 + 1 + 1 + ctPreds y_Q_P_L + 1 + ctInts y_Q_Out + 1 + 1 + ctRefs y_L + 1 + 1 + 1 + 1 + 1).tmod 3 == 0),mkRows (k + 1 + 1 + 1 + ctVals y_R + 1 + 1 + 1 + 1 + 1 + 1 + 1 + 1 + ctPreds y_Q_P_L + 1 + ctInts y_Q_Out + 1 + 1 + ctRefs y_L + 1 + 1 + 1 + 1 + 1 + 1) y_Got⟩

def mkTasks:Int→List XTask→List XTask
 | _,[] => []
 | k,x :: l => mkTask k x :: mkTasks (k + ctTask x) l

theorem ctTask_pos:∀ x:XTask,1≤ctTask x
 | ⟨ac,ad,y_H,y_R,ae,⟨af,⟨ag,ah,ai,⟨aj,ak,al⟩,a⟩,am,aa⟩,an,ao,y_L,y_I,y_J,y_S,ap,aq,ar,ab⟩ => by have au:=ctVals_nn y_R; have av:=ctPreds_nn a; have aw:=ctInts_nn aa; have ax:=ctRefs_nn y_L; have ay:=ctRows_nn ab; simp only [ctTask]; omega

theorem ctTasks_len:∀ l:List XTask,(l.length:Int)≤ctTasks l
 | [] => by simp [ctTasks]
 | x :: l => by have h1:=ctTask_pos x; have h2:=ctTasks_len l; simp only [ctTasks,List.length_cons]; omega

theorem ctTasks_nn (l:List XTask):0≤ctTasks l:=by have:=ctTasks_len l; omega

@[simp] theorem mkTasks_len:∀ (k:Int) (l:List XTask),(mkTasks k l).length = l.length
 | _,[] => by simp [mkTasks]
 | k,x :: l => by simp [mkTasks,mkTasks_len]

theorem chainTask (k1 a aa ab ac ad:Int) (h0:0≤k1) (ae:0≤a) (af:0≤aa) (ag:0≤ab) (ah:0≤ac) (ai:0≤ad) (hB:k1 + (1 + 1 + 1 + a + 1 + 1 + 1 + 1 + 1 + 1 + 1 + 1 + aa + 1 + ab + 1 + 1 + ac + 1 + 1 + 1 + 1 + 1 + 1 + ad)≤4611686018427387904) :
  ∃ w1 w2 w3 w4 w5 w6 w7 w8 w9 w10 w11 w12 w13 w14 w15 w16 w17 w18 w19 w20 w21 w22 w23 w24 w25:Int,w1 = k1 + 1∧IntKind.wrap .i64 (k1 + 1) = w1∧w2 = w1 + 1∧IntKind.wrap .i64 (w1 + 1) = w2∧w3 = w2 + 1∧IntKind.wrap .i64 (w2 + 1) = w3∧w4 = w3 + a∧0≤w3∧w4≤4611686018427387904∧¬ w4 < 0∧w5 = w4 + 1∧IntKind.wrap .i64 (w4 + 1) = w5∧w6 = w5 + 1∧IntKind.wrap .i64 (w5 + 1) = w6∧w7 = w6 + 1∧IntKind.wrap .i64 (w6 + 1) = w7∧w8 = w7 + 1∧IntKind.wrap .i64 (w7 + 1) = w8∧w9 = w8 + 1∧IntKind.wrap .i64 (w8 + 1) = w9∧w10 = w9 + 1∧IntKind.wrap .i64 (w9 + 1) = w10∧w11 = w10 + 1∧IntKind.wrap .i64 (w10 + 1) = w11∧w12 = w11 + 1∧IntKind.wrap .i64 (w11 + 1) = w12∧w11≤4611686018427387904∧w13 = w12 + aa∧0≤w12∧w13≤4611686018427387904∧¬ w13 < 0∧w14 = w13 + 1∧IntKind.wrap .i64 (w13 + 1) = w14∧w15 = w14 + ab∧0≤w14∧w15≤4611686018427387904∧¬ w15 < 0∧w16 = w15 + 1∧IntKind.wrap .i64 (w15 + 1) = w16∧w17 = w16 + 1∧IntKind.wrap .i64 (w16 + 1) = w17∧w18 = w17 + ac∧0≤w17∧w18≤4611686018427387904∧¬ w18 < 0∧w19 = w18 + 1∧IntKind.wrap .i64 (w18 + 1) = w19∧w20 = w19 + 1∧IntKind.wrap .i64 (w19 + 1) = w20∧w21 = w20 + 1∧IntKind.wrap .i64 (w20 + 1) = w21∧w22 = w21 + 1∧IntKind.wrap .i64 (w21 + 1) = w22∧w23 = w22 + 1∧IntKind.wrap .i64 (w22 + 1) = w23∧w24 = w23 + 1∧IntKind.wrap .i64 (w23 + 1) = w24∧w25 = w24 + ad∧0≤w24∧w25≤4611686018427387904∧¬ w25 < 0∧k1 + (1 + 1 + 1 + a + 1 + 1 + 1 + 1 + 1 + 1 + 1 + 1 + aa + 1 + ab + 1 + 1 + ac + 1 + 1 + 1 + 1 + 1 + 1 + ad) = w25∧0≤w25 :=
 ⟨k1 + 1,k1 + 1 + 1,k1 + 1 + 1 + 1,k1 + 1 + 1 + 1 + a,k1 + 1 + 1 + 1 + a + 1,k1 + 1 + 1 + 1 + a + 1 + 1,k1 + 1 + 1 + 1 + a + 1 + 1 + 1,k1 + 1 + 1 + 1 + a + 1 + 1 + 1 + 1,k1 + 1 + 1 + 1 + a + 1 + 1 + 1 + 1 + 1,k1 + 1 + 1 + 1 + a + 1 + 1 + 1 + 1 + 1 + 1,k1 + 1 + 1 + 1 + a + 1 + 1 + 1 + 1 + 1 + 1 + 1,k1 + 1 + 1 + 1 + a + 1 + 1 + 1 + 1 + 1 + 1 + 1 + 1,k1 + 1 + 1 + 1 + a + 1 + 1 + 1 + 1 + 1 + 1 + 1 + 1 + aa,k1 + 1 + 1 + 1 + a + 1 + 1 + 1 + 1 + 1 + 1 + 1 + 1 + aa + 1,k1 + 1 + 1 + 1 + a + 1 + 1 + 1 + 1 + 1 + 1 + 1 + 1 + aa + 1 + ab,k1 + 1 + 1 + 1 + a + 1 + 1 + 1 + 1 + 1 + 1 + 1 + 1 + aa + 1 + ab + 1,k1 + 1 + 1 + 1 + a + 1 + 1 + 1 + 1 + 1 + 1 + 1 + 1 + aa + 1 + ab + 1 + 1,k1 + 1 + 1 + 1 + a + 1 + 1 + 1 + 1 + 1 + 1 + 1 + 1 + aa + 1 + ab + 1 + 1 + ac,k1 + 1 + 1 + 1 + a + 1 + 1 + 1 + 1 + 1 + 1 + 1 + 1 + aa + 1 + ab + 1 + 1 + ac + 1,k1 + 1 + 1 + 1 + a + 1 + 1 + 1 + 1 + 1 + 1 + 1 + 1 + aa + 1 + ab + 1 + 1 + ac + 1 + 1,k1 + 1 + 1 + 1 + a + 1 + 1 + 1 + 1 + 1 + 1 + 1 + 1 + aa + 1 + ab + 1 + 1 + ac + 1 + 1 + 1,k1 + 1 + 1 + 1 + a + 1 + 1 + 1 + 1 + 1 + 1 + 1 + 1 + aa + 1 + ab + 1 + 1 + ac + 1 + 1 + 1 + 1,k1 + 1 + 1 + 1 + a + 1 + 1 + 1 + 1 + 1 + 1 + 1 + 1 + aa + 1 + ab + 1 + 1 + ac + 1 + 1 + 1 + 1 + 1,k1 + 1 + 1 + 1 + a + 1 + 1 + 1 + 1 + 1 + 1 + 1 + 1 + aa + 1 + ab + 1 + 1 + ac + 1 + 1 + 1 + 1 + 1 + 1,k1 + 1 + 1 + 1 + a + 1 + 1 + 1 + 1 + 1 + 1 + 1 + 1 + aa + 1 + ab + 1 + 1 + ac + 1 + 1 + 1 + 1 + 1 + 1 + ad,rfl,wrap_i64 (by omega) (by omega),rfl,wrap_i64 (by omega) (by omega),rfl,wrap_i64 (by omega) (by omega),rfl,by omega,by omega,by omega,rfl,wrap_i64 (by omega) (by omega),rfl,wrap_i64 (by omega) (by omega),rfl,wrap_i64 (by omega) (by omega),rfl,wrap_i64 (by omega) (by omega),rfl,wrap_i64 (by omega) (by omega),rfl,wrap_i64 (by omega) (by omega),rfl,wrap_i64 (by omega) (by omega),rfl,wrap_i64 (by omega) (by omega),by omega,rfl,by omega,by omega,by omega,rfl,wrap_i64 (by omega) (by omega),rfl,by omega,by omega,by omega,rfl,wrap_i64 (by omega) (by omega),rfl,wrap_i64 (by omega) (by omega),rfl,by omega,by omega,by omega,rfl,wrap_i64 (by omega) (by omega),rfl,wrap_i64 (by omega) (by omega),rfl,wrap_i64 (by omega) (by omega),rfl,wrap_i64 (by omega) (by omega),rfl,wrap_i64 (by omega) (by omega),rfl,wrap_i64 (by omega) (by omega),rfl,by omega,by omega,by omega,by omega,by omega⟩

def ctDeed:XDeed→Int
 | ⟨y_Op,y_Task,y_R,y_Id,⟨y_Q_Kind,⟨y_Q_P_Kind,y_Q_P_Col,y_Q_P_Op,⟨y_Q_P_V_Ty,y_Q_P_V_N,y_Q_P_V_S⟩,y_Q_P_L⟩,y_Q_Col,y_Q_Out⟩,⟨y_Res_Rows,y_Res_N,y_Res_Has,⟨y_Res_V_Ty,y_Res_V_N,y_Res_V_S⟩⟩,y_Code,y_Stamp,y_Inv,y_Lin,y_Ret⟩ => 1 + 1 + ctVals y_R + 1 + 1 + 1 + 1 + 1 + 1 + 1 + 1 + ctPreds y_Q_P_L + 1 + ctInts y_Q_Out + ctRows y_Res_Rows + 1 + 1 + 1 + 1 + 1 + 1 + 1 + 1 + 1 + 1

def ctDeeds:List XDeed→Int
 | [] => 0
 | x :: l => ctDeed x + ctDeeds l

def mkDeed:Int→XDeed→XDeed
 | k,⟨y_Op,y_Task,y_R,y_Id,⟨y_Q_Kind,⟨y_Q_P_Kind,y_Q_P_Col,y_Q_P_Op,⟨y_Q_P_V_Ty,y_Q_P_V_N,y_Q_P_V_S⟩,y_Q_P_L⟩,y_Q_Col,y_Q_Out⟩,⟨y_Res_Rows,y_Res_N,y_Res_Has,⟨y_Res_V_Ty,y_Res_V_N,y_Res_V_S⟩⟩,y_Code,y_Stamp,y_Inv,y_Lin,y_Ret⟩ => ⟨k,k + 1,mkVals (k + 1 + 1) y_R,k + 1 + 1 + ctVals y_R,⟨k + 1 + 1 + ctVals y_R + 1,⟨k + 1 + 1 + ctVals y_R + 1 + 1,k + 1 + 1 + ctVals y_R + 1 + 1 + 1,k + 1 + 1 + ctVals y_R + 1 + 1 + 1 + 1,⟨k + 1 + 1 + ctVals y_R + 1 + 1 + 1 + 1 + 1,k + 1 + 1 + ctVals y_R + 1 + 1 + 1 + 1 + 1 + 1,mtext (k + 1 + 1 + ctVals y_R + 1 + 1 + 1 + 1 + 1 + 1 + 1)⟩,mkPreds (k + 1 + 1 + ctVals y_R + 1 + 1 + 1 + 1 + 1 + 1 + 1 + 1) y_Q_P_L⟩,k + 1 + 1 + ctVals y_R + 1 + 1 + 1 + 1 + 1 + 1 + 1 + 1 + ctPreds y_Q_P_L,mkInts (k + 1 + 1 + ctVals y_R + 1 + 1 + 1 + 1 + 1 + 1 + 1 + 1 + ctPreds y_Q_P_L + 1) y_Q_Out⟩,⟨mkRows (k + 1 + 1 + ctVals y_R + 1 + 1 + 1 + 1 + 1 + 1 + 1 + 1 + ctPreds y_Q_P_L + 1 + ctInts y_Q_Out) y_Res_Rows,k + 1 + 1 + ctVals y_R + 1 + 1 + 1 + 1 + 1 + 1 + 1 + 1 + ctPreds y_Q_P_L + 1 + ctInts y_Q_Out + ctRows y_Res_Rows,((k + 1 + 1 + ctVals y_R + 1 + 1 + 1 + 1 + 1 + 1 + 1 + 1 + ctPreds y_Q_P_L + 1 + ctInts y_Q_Out + ctRows y_Res_Rows + 1).tmod 3 == 0),⟨k + 1 + 1 + ctVals y_R + 1 + 1 + 1 + 1 + 1 + 1 + 1 + 1 + ctPreds y_Q_P_L + 1 + ctInts y_Q_Out + ctRows y_Res_Rows + 1 + 1,k + 1 + 1 + ctVals y_R + 1 + 1 + 1 + 1 + 1 + 1 + 1 + 1 + ctPreds y_Q_P_L + 1 + ctInts y_Q_Out + ctRows y_Res_Rows + 1 + 1 + 1,mtext (k + 1 + 1 + ctVals y_R + 1 + 1 + 1 + 1 + 1 + 1 + 1 + 1 + ctPreds y_Q_P_L + 1 + ctInts y_Q_Out + ctRows y_Res_Rows + 1 + 1 + 1 + 1)⟩⟩,k + 1 + 1 + ctVals y_R + 1 + 1 + 1 + 1 + 1 + 1 + 1 + 1 + ctPreds y_Q_P_L + 1 + ctInts y_Q_Out + ctRows y_Res_Rows + 1 + 1 + 1 + 1 + 1,k + 1 + 1 + ctVals y_R + 1 + 1 + 1 + 1 + 1 + 1 + 1 + 1 + ctPreds y_Q_P_L + 1 + ctInts y_Q_Out + ctRows y_Res_Rows + 1 + 1 + 1 + 1 + 1 + 1,k + 1 + 1 + ctVals y_R + 1 + 1 + 1 + 1 + 1 + 1 + 1 + 1 + ctPreds y_Q_P_L + 1 + ctInts y_Q_Out + ctRows y_Res_Rows + 1 + 1 + 1 + 1 + 1 + 1 + 1,k + 1 + 1 + ctVals y_R + 1 + 1 + 1 + 1 + 1 + 1 + 1 + 1 + ctPreds y_Q_P_L + 1 + ctInts y_Q_Out + ctRows y_Res_Rows + 1 + 1 + 1 + 1 + 1 + 1 + 1 + 1,k + 1 + 1 + ctVals y_R + 1 + 1 + 1 + 1 + 1 + 1 + 1 + 1 + ctPreds y_Q_P_L + 1 + ctInts y_Q_Out + ctRows y_Res_Rows + 1 + 1 + 1 + 1 + 1 + 1 + 1 + 1 + 1⟩

def mkDeeds:Int→List XDeed→List XDeed
 | _,[] => []
 | k,x :: l => mkDeed k x :: mkDeeds (k + ctDeed x) l

theorem ctDeed_pos:∀ x:XDeed,1≤ctDeed x
 | ⟨ac,ad,y_R,ae,⟨af,⟨ag,ah,ai,⟨aj,ak,al⟩,a⟩,am,aa⟩,⟨ab,an,ao,⟨ap,aq,ar⟩⟩,au,av,aw,ax,ay⟩ => by have az:=ctVals_nn y_R; have aA:=ctPreds_nn a; have aB:=ctInts_nn aa; have aC:=ctRows_nn ab; simp only [ctDeed]; omega

theorem ctDeeds_len:∀ l:List XDeed,(l.length:Int)≤ctDeeds l
 | [] => by simp [ctDeeds]
 | x :: l => by have h1:=ctDeed_pos x; have h2:=ctDeeds_len l; simp only [ctDeeds,List.length_cons]; omega

theorem ctDeeds_nn (l:List XDeed):0≤ctDeeds l:=by have:=ctDeeds_len l; omega

@[simp] theorem mkDeeds_len:∀ (k:Int) (l:List XDeed),(mkDeeds k l).length = l.length
 | _,[] => by simp [mkDeeds]
 | k,x :: l => by simp [mkDeeds,mkDeeds_len]

theorem chainDeed (k1 a aa ab ac:Int) (h0:0≤k1) (ad:0≤a) (ae:0≤aa) (af:0≤ab) (ag:0≤ac) (hB:k1 + (1 + 1 + a + 1 + 1 + 1 + 1 + 1 + 1 + 1 + 1 + aa + 1 + ab + ac + 1 + 1 + 1 + 1 + 1 + 1 + 1 + 1 + 1 + 1)≤4611686018427387904) :
  ∃ w1 w2 w3 w4 w5 w6 w7 w8 w9 w10 w11 w12 w13 w14 w15 w16 w17 w18 w19 w20 w21 w22 w23 w24 w25:Int,w1 = k1 + 1∧IntKind.wrap .i64 (k1 + 1) = w1∧w2 = w1 + 1∧IntKind.wrap .i64 (w1 + 1) = w2∧w3 = w2 + a∧0≤w2∧w3≤4611686018427387904∧¬ w3 < 0∧w4 = w3 + 1∧IntKind.wrap .i64 (w3 + 1) = w4∧w5 = w4 + 1∧IntKind.wrap .i64 (w4 + 1) = w5∧w6 = w5 + 1∧IntKind.wrap .i64 (w5 + 1) = w6∧w7 = w6 + 1∧IntKind.wrap .i64 (w6 + 1) = w7∧w8 = w7 + 1∧IntKind.wrap .i64 (w7 + 1) = w8∧w9 = w8 + 1∧IntKind.wrap .i64 (w8 + 1) = w9∧w10 = w9 + 1∧IntKind.wrap .i64 (w9 + 1) = w10∧w11 = w10 + 1∧IntKind.wrap .i64 (w10 + 1) = w11∧w10≤4611686018427387904∧w12 = w11 + aa∧0≤w11∧w12≤4611686018427387904∧¬ w12 < 0∧w13 = w12 + 1∧IntKind.wrap .i64 (w12 + 1) = w13∧w14 = w13 + ab∧0≤w13∧w14≤4611686018427387904∧¬ w14 < 0∧w15 = w14 + ac∧0≤w14∧w15≤4611686018427387904∧¬ w15 < 0∧w16 = w15 + 1∧IntKind.wrap .i64 (w15 + 1) = w16∧w17 = w16 + 1∧IntKind.wrap .i64 (w16 + 1) = w17∧w18 = w17 + 1∧IntKind.wrap .i64 (w17 + 1) = w18∧w19 = w18 + 1∧IntKind.wrap .i64 (w18 + 1) = w19∧w20 = w19 + 1∧IntKind.wrap .i64 (w19 + 1) = w20∧w19≤4611686018427387904∧w21 = w20 + 1∧IntKind.wrap .i64 (w20 + 1) = w21∧w22 = w21 + 1∧IntKind.wrap .i64 (w21 + 1) = w22∧w23 = w22 + 1∧IntKind.wrap .i64 (w22 + 1) = w23∧w24 = w23 + 1∧IntKind.wrap .i64 (w23 + 1) = w24∧w25 = w24 + 1∧IntKind.wrap .i64 (w24 + 1) = w25∧k1 + (1 + 1 + a + 1 + 1 + 1 + 1 + 1 + 1 + 1 + 1 + aa + 1 + ab + ac + 1 + 1 + 1 + 1 + 1 + 1 + 1 + 1 + 1 + 1) = w25∧0≤w25 :=
 ⟨k1 + 1,k1 + 1 + 1,k1 + 1 + 1 + a,k1 + 1 + 1 + a + 1,k1 + 1 + 1 + a + 1 + 1,k1 + 1 + 1 + a + 1 + 1 + 1,k1 + 1 + 1 + a + 1 + 1 + 1 + 1,k1 + 1 + 1 + a + 1 + 1 + 1 + 1 + 1,k1 + 1 + 1 + a + 1 + 1 + 1 + 1 + 1 + 1,k1 + 1 + 1 + a + 1 + 1 + 1 + 1 + 1 + 1 + 1,k1 + 1 + 1 + a + 1 + 1 + 1 + 1 + 1 + 1 + 1 + 1,k1 + 1 + 1 + a + 1 + 1 + 1 + 1 + 1 + 1 + 1 + 1 + aa,k1 + 1 + 1 + a + 1 + 1 + 1 + 1 + 1 + 1 + 1 + 1 + aa + 1,k1 + 1 + 1 + a + 1 + 1 + 1 + 1 + 1 + 1 + 1 + 1 + aa + 1 + ab,k1 + 1 + 1 + a + 1 + 1 + 1 + 1 + 1 + 1 + 1 + 1 + aa + 1 + ab + ac,k1 + 1 + 1 + a + 1 + 1 + 1 + 1 + 1 + 1 + 1 + 1 + aa + 1 + ab + ac + 1,k1 + 1 + 1 + a + 1 + 1 + 1 + 1 + 1 + 1 + 1 + 1 + aa + 1 + ab + ac + 1 + 1,k1 + 1 + 1 + a + 1 + 1 + 1 + 1 + 1 + 1 + 1 + 1 + aa + 1 + ab + ac + 1 + 1 + 1,k1 + 1 + 1 + a + 1 + 1 + 1 + 1 + 1 + 1 + 1 + 1 + aa + 1 + ab + ac + 1 + 1 + 1 + 1,k1 + 1 + 1 + a + 1 + 1 + 1 + 1 + 1 + 1 + 1 + 1 + aa + 1 + ab + ac + 1 + 1 + 1 + 1 + 1,k1 + 1 + 1 + a + 1 + 1 + 1 + 1 + 1 + 1 + 1 + 1 + aa + 1 + ab + ac + 1 + 1 + 1 + 1 + 1 + 1,k1 + 1 + 1 + a + 1 + 1 + 1 + 1 + 1 + 1 + 1 + 1 + aa + 1 + ab + ac + 1 + 1 + 1 + 1 + 1 + 1 + 1,k1 + 1 + 1 + a + 1 + 1 + 1 + 1 + 1 + 1 + 1 + 1 + aa + 1 + ab + ac + 1 + 1 + 1 + 1 + 1 + 1 + 1 + 1,k1 + 1 + 1 + a + 1 + 1 + 1 + 1 + 1 + 1 + 1 + 1 + aa + 1 + ab + ac + 1 + 1 + 1 + 1 + 1 + 1 + 1 + 1 + 1,k1 + 1 + 1 + a + 1 + 1 + 1 + 1 + 1 + 1 + 1 + 1 + aa + 1 + ab + ac + 1 + 1 + 1 + 1 + 1 + 1 + 1 + 1 + 1 + 1,rfl,wrap_i64 (by omega) (by omega),rfl,wrap_i64 (by omega) (by omega),rfl,by omega,by omega,by omega,rfl,wrap_i64 (by omega) (by omega),rfl,wrap_i64 (by omega) (by omega),rfl,wrap_i64 (by omega) (by omega),rfl,wrap_i64 (by omega) (by omega),rfl,wrap_i64 (by omega) (by omega),rfl,wrap_i64 (by omega) (by omega),rfl,wrap_i64 (by omega) (by omega),rfl,wrap_i64 (by omega) (by omega),by omega,rfl,by omega,by omega,by omega,rfl,wrap_i64 (by omega) (by omega),rfl,by omega,by omega,by omega,rfl,by omega,by omega,by omega,rfl,wrap_i64 (by omega) (by omega),rfl,wrap_i64 (by omega) (by omega),rfl,wrap_i64 (by omega) (by omega),rfl,wrap_i64 (by omega) (by omega),rfl,wrap_i64 (by omega) (by omega),by omega,rfl,wrap_i64 (by omega) (by omega),rfl,wrap_i64 (by omega) (by omega),rfl,wrap_i64 (by omega) (by omega),rfl,wrap_i64 (by omega) (by omega),rfl,wrap_i64 (by omega) (by omega),by omega,by omega⟩

def MarkPreds (l:List XPred):Prop:=∀ (k:Int),0≤k→k + ctPreds l≤4611686018427387904→Gw TT 191 [.one (.own (.sl 7 (l.map XPred.e))),vi k] = some (vi (k + ctPreds l),[(0,0,.own (.sl 7 ((mkPreds k l).map XPred.e)))])

theorem MarkPreds_of (l:List XPred) (IH:∀ y ∈ l,MarkPreds y.L):MarkPreds l:=by
  intro k h0 hc
  refine Ga pf191 pb191 ?_
  unfold pb191
  generalize hM:mkPreds k l = M
  have hlen:=ctPreds_len l
  refine Ud Oo ?_
  · refine wp_loopI (σ:=List XPred × List XPred × Int) (fun s => [(0,AV.pl 0 0 [],some (Rt.vir [C.own (D.sl 7 (s.1.map XPred.e ++ s.2.1.map XPred.e))])),(1,AV.v false (di s.2.2),none),(5,AV.v false (di ((s.1.length:Nat):Int)),none)]) (fun s => (∃ q,l = q ++ s.2.1)∧M = s.1 ++ mkPreds s.2.2 s.2.1∧s.2.2 + ctPreds s.2.1 = k + ctPreds l∧s.1.length + s.2.1.length = l.length∧0≤s.2.2) (fun s => s.2.1.length) ([],l,k) (by simp) ⟨⟨[],rfl⟩,hM.symm,rfl,by simp,h0⟩ ?_
    rintro ⟨pre,rest,k1⟩ ⟨⟨q,hM2⟩,h1,h2,h3,h4⟩
    simp only at hM2 h1 h2 h3 h4
    rcases rest with _ | ⟨⟨a,aa,ab,⟨ac,ad,ae⟩,y_L⟩,rest⟩
    · unfold pl191_0
      simp only [mkPreds,ctPreds,List.append_nil,Int.add_zero] at h1 h2
      subst h1
      refine Ud Oo ?_
      repeat intro hc
      all_goals simp [pf191,h2]
    · unfold pl191_0
      simp only [mkPreds,ctPreds,mkPred,ctPred,List.length_cons] at h1 h2 h3
      have hnr:=ctPreds_nn rest
      have hw:=Wi ((pre.length:Int) + 1)
      have hlt:(pre.length:Int) < (pre.length:Int) + ((rest.length:Int) + 1):=by omega
      have hl2:(pre ++ [mkPred k1 ⟨a,aa,ab,⟨ac,ad,ae⟩,y_L⟩]).length + rest.length = l.length:=by simp only [List.length_append,List.length_cons,List.length_nil]; omega
      have hB2:k1 + (1 + 1 + 1 + 1 + 1 + 1 + ctPreds y_L) + ctPreds rest = k + ctPreds l:=by omega
      obtain ⟨w1,w2,w3,w4,w5,w6,w7,hv0,hw0,hv1,hw1,hv2,hw2,hv3,hw3,hv4,hw4,hv5,hw5,ht5,hv6,hz6,hy6,hg6,hE,hZ⟩:=chainPred k1 (ctPreds y_L) h4 (ctPreds_nn y_L) (by omega)
      rw [hE] at h1 hB2
      try simp only [← hv0,← hv1,← hv2,← hv3,← hv4,← hv5,← hv6] at h1
      have ih:=IH ⟨a,aa,ab,⟨ac,ad,ae⟩,y_L⟩ (by simp [hM2]) w6 hz6 (by simp only; rw [← hv6]; exact hy6)
      simp only [← hv6] at ih
      subst h1
      repeat' (first
        | with_reducible (first | refine wp_seq ?_ | refine wp_blk ?_ | refine wp_skip ?_ | refine wp_exit ?_ | refine wp_ret ?_ | refine seqQ_norm ?_ | refine seqQ_ret ?_ | refine seqQ_exit ?_ | refine blkQ_norm ?_ | refine blkQ_ret ?_ | refine blkQ_exit ?_ | refine loopQ_norm ?_ | refine loopQ_exit ?_ | refine loopQ_ret ?_ | refine endQ_ret ?_ | refine endQ_norm ?_ | refine endE_ret ?_ | refine endE_norm ?_ | refine endI_ret ?_ | refine endI_norm ?_)
        | (with_reducible refine wp_regK fun K hK => ?_
           simp[hw0,hw1,hw2,hw3,hw4,hw5,ht5,hz6,hy6,hg6,← hv6,hw,hlt,ih]
           repeat' (with_reducible first | refine hK _ ?_ | (refine psel ?_ ?_ <;> (intro hc; (try rw [Decidable.not_not] at hc); first | (try simp [hc,hw0,hw1,hw2,hw3,hw4,hw5,ht5,hz6,hy6,hg6,← hv6,hw,hlt,ih]))))
           all_goals (clear hK; clear K))
        | (with_reducible refine wp_condE ?_
           refine ⟨_,rfl,?_,?_⟩ <;> (intro hc; (try simp at hc); skip)))
      exact ⟨(pre ++ [mkPred k1 ⟨a,aa,ab,⟨ac,ad,ae⟩,y_L⟩],rest,w7),by simp [mkPred,hv0,hv1,hv2,hv3,hv4,hv5,hv6],⟨⟨q ++ [⟨a,aa,ab,⟨ac,ad,ae⟩,y_L⟩],by simp [hM2]⟩,by simp [mkPred,hv0,hv1,hv2,hv3,hv4,hv5,hv6],hB2,hl2,hZ⟩,by simp⟩

theorem MarkPreds_all (l:List XPred):MarkPreds l :=
 MarkPreds_of l fun y hy => MarkPreds_all y.L
termination_by SizeOf.sizeOf l
decreasing_by
 have h1:=List.sizeOf_lt_of_mem hy
 have h2:SizeOf.sizeOf y.L < SizeOf.sizeOf y:=by cases y; simp; omega
 omega

@[simp] theorem t191 (l:List XPred) (k:Int) (h0:0≤k) (hc:k + ctPreds l≤4611686018427387904):Gw TT 191 [.one (.own (.sl 7 (l.map XPred.e))),vi k] = some (vi (k + ctPreds l),[(0,0,.own (.sl 7 ((mkPreds k l).map XPred.e)))]):=MarkPreds_all l k h0 hc

@[simp] theorem t195 (l:List XTask) (k:Int) (h0:0≤k) (hc:k + ctTasks l≤4611686018427387904):Gw TT 195 [.one (.own (.sl 25 (l.map XTask.e))),vi k] = some (vi (k + ctTasks l),[(0,0,.own (.sl 25 ((mkTasks k l).map XTask.e)))]):=by
  refine Ga pf195 pb195 ?_
  unfold pb195
  generalize hM:mkTasks k l = M
  have hlen:=ctTasks_len l
  refine Ud Oo ?_
  · refine wp_loopI (σ:=List XTask × List XTask × Int) (fun s => [(0,AV.pl 0 0 [],some (Rt.vir [C.own (D.sl 25 (s.1.map XTask.e ++ s.2.1.map XTask.e))])),(1,AV.v false (di s.2.2),none),(5,AV.v false (di ((s.1.length:Nat):Int)),none)]) (fun s => M = s.1 ++ mkTasks s.2.2 s.2.1∧s.2.2 + ctTasks s.2.1 = k + ctTasks l∧s.1.length + s.2.1.length = l.length∧0≤s.2.2) (fun s => s.2.1.length) ([],l,k) (by simp) ⟨hM.symm,rfl,by simp,h0⟩ ?_
    rintro ⟨pre,rest,k1⟩ ⟨h1,h2,h3,h4⟩
    simp only at h1 h2 h3 h4
    rcases rest with _ | ⟨⟨ac,ad,y_H,y_R,ae,⟨af,⟨ag,ah,ai,⟨aj,ak,al⟩,a⟩,am,aa⟩,an,ao,y_L,y_I,y_J,y_S,ap,aq,ar,ab⟩,rest⟩
    · unfold pl195_0
      simp only [mkTasks,ctTasks,List.append_nil,Int.add_zero] at h1 h2
      subst h1
      refine Ud Oo ?_
      repeat intro hc
      all_goals simp [pf195,h2]
    · unfold pl195_0
      simp only [mkTasks,ctTasks,mkTask,ctTask,List.length_cons] at h1 h2 h3
      have hnr:=ctTasks_nn rest
      have hw:=Wi ((pre.length:Int) + 1)
      have hlt:(pre.length:Int) < (pre.length:Int) + ((rest.length:Int) + 1):=by omega
      have hl2:(pre ++ [mkTask k1 ⟨ac,ad,y_H,y_R,ae,⟨af,⟨ag,ah,ai,⟨aj,ak,al⟩,a⟩,am,aa⟩,an,ao,y_L,y_I,y_J,y_S,ap,aq,ar,ab⟩]).length + rest.length = l.length:=by simp only [List.length_append,List.length_cons,List.length_nil]; omega
      have hB2:k1 + (1 + 1 + 1 + ctVals y_R + 1 + 1 + 1 + 1 + 1 + 1 + 1 + 1 + ctPreds a + 1 + ctInts aa + 1 + 1 + ctRefs y_L + 1 + 1 + 1 + 1 + 1 + 1 + ctRows ab) + ctTasks rest = k + ctTasks l:=by omega
      obtain ⟨w1,w2,w3,w4,w5,w6,w7,w8,w9,w10,w11,w12,w13,w14,w15,w16,w17,w18,w19,w20,w21,w22,w23,w24,w25,hv0,hw0,hv1,hw1,hv2,hw2,hv3,hz3,hy3,hg3,hv4,hw4,hv5,hw5,hv6,hw6,hv7,hw7,hv8,hw8,hv9,hw9,hv10,hw10,hv11,hw11,ht11,hv12,hz12,hy12,hg12,hv13,hw13,hv14,hz14,hy14,hg14,hv15,hw15,hv16,hw16,hv17,hz17,hy17,hg17,hv18,hw18,hv19,hw19,hv20,hw20,hv21,hw21,hv22,hw22,hv23,hw23,hv24,hz24,hy24,hg24,hE,hZ⟩:=chainTask k1 (ctVals y_R) (ctPreds a) (ctInts aa) (ctRefs y_L) (ctRows ab) h4 (ctVals_nn y_R) (ctPreds_nn a) (ctInts_nn aa) (ctRefs_nn y_L) (ctRows_nn ab) (by omega)
      rw [hE] at h1 hB2
      try simp only [← hv0,← hv1,← hv2,← hv3,← hv4,← hv5,← hv6,← hv7,← hv8,← hv9,← hv10,← hv11,← hv12,← hv13,← hv14,← hv15,← hv16,← hv17,← hv18,← hv19,← hv20,← hv21,← hv22,← hv23,← hv24] at h1
      subst h1
      repeat' (first
        | with_reducible (first | refine wp_seq ?_ | refine wp_blk ?_ | refine wp_skip ?_ | refine wp_exit ?_ | refine wp_ret ?_ | refine seqQ_norm ?_ | refine seqQ_ret ?_ | refine seqQ_exit ?_ | refine blkQ_norm ?_ | refine blkQ_ret ?_ | refine blkQ_exit ?_ | refine loopQ_norm ?_ | refine loopQ_exit ?_ | refine loopQ_ret ?_ | refine endQ_ret ?_ | refine endQ_norm ?_ | refine endE_ret ?_ | refine endE_norm ?_ | refine endI_ret ?_ | refine endI_norm ?_)
        | (with_reducible refine wp_regK fun K hK => ?_
           simp[hw0,hw1,hw2,hz3,hy3,hg3,← hv3,hw4,hw5,hw6,hw7,hw8,hw9,hw10,hw11,ht11,hz12,hy12,hg12,← hv12,hw13,hz14,hy14,hg14,← hv14,hw15,hw16,hz17,hy17,hg17,← hv17,hw18,hw19,hw20,hw21,hw22,hw23,hz24,hy24,hg24,← hv24,hw,hlt]
           repeat' (with_reducible first | refine hK _ ?_ | (refine psel ?_ ?_ <;> (intro hc; (try rw [Decidable.not_not] at hc); first | (try simp [hc,hw0,hw1,hw2,hz3,hy3,hg3,← hv3,hw4,hw5,hw6,hw7,hw8,hw9,hw10,hw11,ht11,hz12,hy12,hg12,← hv12,hw13,hz14,hy14,hg14,← hv14,hw15,hw16,hz17,hy17,hg17,← hv17,hw18,hw19,hw20,hw21,hw22,hw23,hz24,hy24,hg24,← hv24,hw,hlt]))))
           all_goals (clear hK; clear K))
        | (with_reducible refine wp_condE ?_
           refine ⟨_,rfl,?_,?_⟩ <;> (intro hc; (try simp at hc); skip)))
      exact ⟨(pre ++ [mkTask k1 ⟨ac,ad,y_H,y_R,ae,⟨af,⟨ag,ah,ai,⟨aj,ak,al⟩,a⟩,am,aa⟩,an,ao,y_L,y_I,y_J,y_S,ap,aq,ar,ab⟩],rest,w25),by simp [mkTask,hv0,hv1,hv2,hv3,hv4,hv5,hv6,hv7,hv8,hv9,hv10,hv11,hv12,hv13,hv14,hv15,hv16,hv17,hv18,hv19,hv20,hv21,hv22,hv23,hv24],⟨by simp [mkTask,hv0,hv1,hv2,hv3,hv4,hv5,hv6,hv7,hv8,hv9,hv10,hv11,hv12,hv13,hv14,hv15,hv16,hv17,hv18,hv19,hv20,hv21,hv22,hv23,hv24],hB2,hl2,hZ⟩,by simp⟩

@[simp] theorem t188 (l:List XDeed) (k:Int) (h0:0≤k) (hc:k + ctDeeds l≤4611686018427387904):Gw TT 188 [.one (.own (.sl 25 (l.map XDeed.e))),vi k] = some (vi (k + ctDeeds l),[(0,0,.own (.sl 25 ((mkDeeds k l).map XDeed.e)))]):=by
  refine Ga pf188 pb188 ?_
  unfold pb188
  generalize hM:mkDeeds k l = M
  have hlen:=ctDeeds_len l
  refine Ud Oo ?_
  · refine wp_loopI (σ:=List XDeed × List XDeed × Int) (fun s => [(0,AV.pl 0 0 [],some (Rt.vir [C.own (D.sl 25 (s.1.map XDeed.e ++ s.2.1.map XDeed.e))])),(1,AV.v false (di s.2.2),none),(5,AV.v false (di ((s.1.length:Nat):Int)),none)]) (fun s => M = s.1 ++ mkDeeds s.2.2 s.2.1∧s.2.2 + ctDeeds s.2.1 = k + ctDeeds l∧s.1.length + s.2.1.length = l.length∧0≤s.2.2) (fun s => s.2.1.length) ([],l,k) (by simp) ⟨hM.symm,rfl,by simp,h0⟩ ?_
    rintro ⟨pre,rest,k1⟩ ⟨h1,h2,h3,h4⟩
    simp only at h1 h2 h3 h4
    rcases rest with _ | ⟨⟨ac,ad,y_R,ae,⟨af,⟨ag,ah,ai,⟨aj,ak,al⟩,a⟩,am,aa⟩,⟨ab,an,ao,⟨ap,aq,ar⟩⟩,au,av,aw,ax,ay⟩,rest⟩
    · unfold pl188_0
      simp only [mkDeeds,ctDeeds,List.append_nil,Int.add_zero] at h1 h2
      subst h1
      refine Ud Oo ?_
      repeat intro hc
      all_goals simp [pf188,h2]
    · unfold pl188_0
      simp only [mkDeeds,ctDeeds,mkDeed,ctDeed,List.length_cons] at h1 h2 h3
      have hnr:=ctDeeds_nn rest
      have hw:=Wi ((pre.length:Int) + 1)
      have hlt:(pre.length:Int) < (pre.length:Int) + ((rest.length:Int) + 1):=by omega
      have hl2:(pre ++ [mkDeed k1 ⟨ac,ad,y_R,ae,⟨af,⟨ag,ah,ai,⟨aj,ak,al⟩,a⟩,am,aa⟩,⟨ab,an,ao,⟨ap,aq,ar⟩⟩,au,av,aw,ax,ay⟩]).length + rest.length = l.length:=by simp only [List.length_append,List.length_cons,List.length_nil]; omega
      have hB2:k1 + (1 + 1 + ctVals y_R + 1 + 1 + 1 + 1 + 1 + 1 + 1 + 1 + ctPreds a + 1 + ctInts aa + ctRows ab + 1 + 1 + 1 + 1 + 1 + 1 + 1 + 1 + 1 + 1) + ctDeeds rest = k + ctDeeds l:=by omega
      obtain ⟨w1,w2,w3,w4,w5,w6,w7,w8,w9,w10,w11,w12,w13,w14,w15,w16,w17,w18,w19,w20,w21,w22,w23,w24,w25,hv0,hw0,hv1,hw1,hv2,hz2,hy2,hg2,hv3,hw3,hv4,hw4,hv5,hw5,hv6,hw6,hv7,hw7,hv8,hw8,hv9,hw9,hv10,hw10,ht10,hv11,hz11,hy11,hg11,hv12,hw12,hv13,hz13,hy13,hg13,hv14,hz14,hy14,hg14,hv15,hw15,hv16,hw16,hv17,hw17,hv18,hw18,hv19,hw19,ht19,hv20,hw20,hv21,hw21,hv22,hw22,hv23,hw23,hv24,hw24,hE,hZ⟩:=chainDeed k1 (ctVals y_R) (ctPreds a) (ctInts aa) (ctRows ab) h4 (ctVals_nn y_R) (ctPreds_nn a) (ctInts_nn aa) (ctRows_nn ab) (by omega)
      rw [hE] at h1 hB2
      try simp only [← hv0,← hv1,← hv2,← hv3,← hv4,← hv5,← hv6,← hv7,← hv8,← hv9,← hv10,← hv11,← hv12,← hv13,← hv14,← hv15,← hv16,← hv17,← hv18,← hv19,← hv20,← hv21,← hv22,← hv23,← hv24] at h1
      subst h1
      repeat' (first
        | with_reducible (first | refine wp_seq ?_ | refine wp_blk ?_ | refine wp_skip ?_ | refine wp_exit ?_ | refine wp_ret ?_ | refine seqQ_norm ?_ | refine seqQ_ret ?_ | refine seqQ_exit ?_ | refine blkQ_norm ?_ | refine blkQ_ret ?_ | refine blkQ_exit ?_ | refine loopQ_norm ?_ | refine loopQ_exit ?_ | refine loopQ_ret ?_ | refine endQ_ret ?_ | refine endQ_norm ?_ | refine endE_ret ?_ | refine endE_norm ?_ | refine endI_ret ?_ | refine endI_norm ?_)
        | (with_reducible refine wp_regK fun K hK => ?_
           simp[hw0,hw1,hz2,hy2,hg2,← hv2,hw3,hw4,hw5,hw6,hw7,hw8,hw9,hw10,ht10,hz11,hy11,hg11,← hv11,hw12,hz13,hy13,hg13,← hv13,hz14,hy14,hg14,← hv14,hw15,hw16,hw17,hw18,hw19,ht19,hw20,hw21,hw22,hw23,hw24,hw,hlt]
           repeat' (with_reducible first | refine hK _ ?_ | (refine psel ?_ ?_ <;> (intro hc; (try rw [Decidable.not_not] at hc); first | (try simp [hc,hw0,hw1,hz2,hy2,hg2,← hv2,hw3,hw4,hw5,hw6,hw7,hw8,hw9,hw10,ht10,hz11,hy11,hg11,← hv11,hw12,hz13,hy13,hg13,← hv13,hz14,hy14,hg14,← hv14,hw15,hw16,hw17,hw18,hw19,ht19,hw20,hw21,hw22,hw23,hw24,hw,hlt]))))
           all_goals (clear hK; clear K))
        | (with_reducible refine wp_condE ?_
           refine ⟨_,rfl,?_,?_⟩ <;> (intro hc; (try simp at hc); skip)))
      exact ⟨(pre ++ [mkDeed k1 ⟨ac,ad,y_R,ae,⟨af,⟨ag,ah,ai,⟨aj,ak,al⟩,a⟩,am,aa⟩,⟨ab,an,ao,⟨ap,aq,ar⟩⟩,au,av,aw,ax,ay⟩],rest,w25),by simp [mkDeed,hv0,hv1,hv2,hv3,hv4,hv5,hv6,hv7,hv8,hv9,hv10,hv11,hv12,hv13,hv14,hv15,hv16,hv17,hv18,hv19,hv20,hv21,hv22,hv23,hv24],⟨by simp [mkDeed,hv0,hv1,hv2,hv3,hv4,hv5,hv6,hv7,hv8,hv9,hv10,hv11,hv12,hv13,hv14,hv15,hv16,hv17,hv18,hv19,hv20,hv21,hv22,hv23,hv24],hB2,hl2,hZ⟩,by simp⟩

@[simp] theorem t198 (a:List Int) (ad ae:Int) (af x_T:Int) (x_E ag:Int) (aa:List XRef) (x_B:List XBuf) (x_M:List Int) (x_X:List XDead) (x_P:List Int) (ab:List XTask) (ac:List XDeed) (k:Int) (h0:0≤k) (hc:k + ctInts a + ctRefs aa + ctBufs x_B + ctInts x_M + ctDeads x_X + ctInts x_P + ctTasks ab + ctDeeds ac≤4611686018427387904):Gw TT 198 [.st [.own (.sl 1 (a.map ei)),.ro false (di ad),.ro false (di ae),.ro false (di af),.ro false (di x_T),.ro false (di x_E),.ro false (di ag),.own (.sl 5 (aa.map XRef.e)),.own (.sl 5 (x_B.map XBuf.e)),.own (.sl 1 (x_M.map ei)),.own (.sl 3 (x_X.map XDead.e)),.own (.sl 1 (x_P.map ei)),.own (.sl 25 (ab.map XTask.e)),.own (.sl 25 (ac.map XDeed.e))],vi k] = some (vi (k + ctInts a + ctRefs aa + ctBufs x_B + ctInts x_M + ctDeads x_X + ctInts x_P + ctTasks ab + ctDeeds ac),[(0,0,.own (.sl 1 ((mkInts (k) a).map ei))),(0,7,.own (.sl 5 ((mkRefs (k + ctInts a) aa).map XRef.e))),(0,8,.own (.sl 5 ((mkBufs (k + ctInts a + ctRefs aa) x_B).map XBuf.e))),(0,9,.own (.sl 1 ((mkInts (k + ctInts a + ctRefs aa + ctBufs x_B) x_M).map ei))),(0,10,.own (.sl 3 ((mkDeads (k + ctInts a + ctRefs aa + ctBufs x_B + ctInts x_M) x_X).map XDead.e))),(0,11,.own (.sl 1 ((mkInts (k + ctInts a + ctRefs aa + ctBufs x_B + ctInts x_M + ctDeads x_X) x_P).map ei))),(0,12,.own (.sl 25 ((mkTasks (k + ctInts a + ctRefs aa + ctBufs x_B + ctInts x_M + ctDeads x_X + ctInts x_P) ab).map XTask.e))),(0,13,.own (.sl 25 ((mkDeeds (k + ctInts a + ctRefs aa + ctBufs x_B + ctInts x_M + ctDeads x_X + ctInts x_P + ctTasks ab) ac).map XDeed.e)))]):=by
 refine Ga pf198 pb198 ?_
 unfold pb198
 have ah:=ctInts_nn a
 have ai:=ctRefs_nn aa
 have aj:=ctBufs_nn x_B
 have ak:=ctInts_nn x_M
 have al:=ctDeads_nn x_X
 have am:=ctInts_nn x_P
 have an:=ctTasks_nn ab
 have ao:=ctDeeds_nn ac
 have hz0:0≤k:=by omega
 have hy0:k + ctInts a≤4611686018427387904:=by omega
 have hz7:0≤k + ctInts a:=by omega
 have hy7:k + ctInts a + ctRefs aa≤4611686018427387904:=by omega
 have hz8:0≤k + ctInts a + ctRefs aa:=by omega
 have hy8:k + ctInts a + ctRefs aa + ctBufs x_B≤4611686018427387904:=by omega
 have hz9:0≤k + ctInts a + ctRefs aa + ctBufs x_B:=by omega
 have hy9:k + ctInts a + ctRefs aa + ctBufs x_B + ctInts x_M≤4611686018427387904:=by omega
 have hz10:0≤k + ctInts a + ctRefs aa + ctBufs x_B + ctInts x_M:=by omega
 have hy10:k + ctInts a + ctRefs aa + ctBufs x_B + ctInts x_M + ctDeads x_X≤4611686018427387904:=by omega
 have hz11:0≤k + ctInts a + ctRefs aa + ctBufs x_B + ctInts x_M + ctDeads x_X:=by omega
 have hy11:k + ctInts a + ctRefs aa + ctBufs x_B + ctInts x_M + ctDeads x_X + ctInts x_P≤4611686018427387904:=by omega
 have hz12:0≤k + ctInts a + ctRefs aa + ctBufs x_B + ctInts x_M + ctDeads x_X + ctInts x_P:=by omega
 have hy12:k + ctInts a + ctRefs aa + ctBufs x_B + ctInts x_M + ctDeads x_X + ctInts x_P + ctTasks ab≤4611686018427387904:=by omega
 have hz13:0≤k + ctInts a + ctRefs aa + ctBufs x_B + ctInts x_M + ctDeads x_X + ctInts x_P + ctTasks ab:=by omega
 have hy13:k + ctInts a + ctRefs aa + ctBufs x_B + ctInts x_M + ctDeads x_X + ctInts x_P + ctTasks ab + ctDeeds ac≤4611686018427387904:=by omega
 refine Ud (J8 hz0 hy0 hz7 hy7 hz8 hy8 hz9 (J8 hy9 hz10 hy10 hz11 hy11 hz12 hy12 (J2 hz13 hy13))) ?_
 simp [pf198]

theorem ctVals_app:∀ (l:List XVal) (x:XVal),ctVals (l ++ [x]) = ctVals l + ctVal x
 | [],x => by simp [ctVals]
 | y :: l,x => by have:=ctVals_app l x; simp only [List.cons_append,ctVals,this]; omega

theorem ctRows_app:∀ (l:List XRow) (x:XRow),ctRows (l ++ [x]) = ctRows l + ctRow x
 | [],x => by simp [ctRows]
 | y :: l,x => by have:=ctRows_app l x; simp only [List.cons_append,ctRows,this]; omega

theorem ctSlots_app:∀ (l:List XSlot) (x:XSlot),ctSlots (l ++ [x]) = ctSlots l + ctSlot x
 | [],x => by simp [ctSlots]
 | y :: l,x => by have:=ctSlots_app l x; simp only [List.cons_append,ctSlots,this]; omega

theorem ctBufs_app:∀ (l:List XBuf) (x:XBuf),ctBufs (l ++ [x]) = ctBufs l + ctBuf x
 | [],x => by simp [ctBufs]
 | y :: l,x => by have:=ctBufs_app l x; simp only [List.cons_append,ctBufs,this]; omega

theorem ctPreds_app:∀ (l:List XPred) (x:XPred),ctPreds (l ++ [x]) = ctPreds l + ctPred x
 | [],x => by simp [ctPreds]
 | y :: l,x => by have:=ctPreds_app l x; simp only [List.cons_append,ctPreds,this]; omega

theorem ctTasks_app:∀ (l:List XTask) (x:XTask),ctTasks (l ++ [x]) = ctTasks l + ctTask x
 | [],x => by simp [ctTasks]
 | y :: l,x => by have:=ctTasks_app l x; simp only [List.cons_append,ctTasks,this]; omega

theorem ctDeeds_app:∀ (l:List XDeed) (x:XDeed),ctDeeds (l ++ [x]) = ctDeeds l + ctDeed x
 | [],x => by simp [ctDeeds]
 | y :: l,x => by have:=ctDeeds_app l x; simp only [List.cons_append,ctDeeds,this]; omega

theorem t219b (k0:Bool) (l:List Int) (left:Int) (h0:0≤left) (h1:left≤1048576) (hl:l.length≤9223372036854775807) :
  ∃ n,Gw TT 219 [.one (.ro k0 (.sl 1 (l.map ei))),vi left] = some (vi n,[])∧-1≤n∧n≤left∧(0≤n→ctInts l≤31 * (left - n)):=by
 refine Gw_ofI (F:=pf219) rfl rfl ?_
 show Wp _ pb219 _ _
 unfold pb219
 have g:=Wi (left - (l.length:Int))
 refine Ud g ?_ ?_
 all_goals repeat intro hc
 ·exact ⟨-1,by simp [pf219],by omega,by omega,fun h => absurd h (by omega)⟩
 ·have hq:=ctInts_le l
  exact ⟨left - (l.length:Int),by simp [pf219],by omega,by omega,fun _ => by omega⟩

theorem t212b (k0:Bool) (l:List Int) (left:Int) (h0:0≤left) (h1:left≤1048576) (hl:l.length≤9223372036854775807) :
  ∃ n,Gw TT 212 [.one (.ro k0 (.sl 1 (l.map eb))),vi left] = some (vi n,[])∧-1≤n∧n≤left∧(0≤n→ctBytes l≤31 * (left - n)):=by
 refine Gw_ofI (F:=pf212) rfl rfl ?_
 show Wp _ pb212 _ _
 unfold pb212
 have g:=Wi (left - (l.length:Int))
 refine Ud g ?_ ?_
 all_goals repeat intro hc
 ·exact ⟨-1,by simp [pf212],by omega,by omega,fun h => absurd h (by omega)⟩
 ·have hq:=ctBytes_le l
  exact ⟨left - (l.length:Int),by simp [pf212],by omega,by omega,fun _ => by omega⟩

theorem t231b (a x_N:Int) (x_S:ByteArray) (left:Int) (h0:0≤left) (h1:left≤1048576) (aa:x_S.size≤9223372036854775807) :
  ∃ n,Gw TT 231 [.st [.ro false (di a),.ro false (di x_N),.ro false (.str x_S)],vi left] = some (vi n,[])∧-1≤n∧n≤left∧(0≤n→0≤31 * (left - n)):=by
 refine Gw_ofI (F:=pf231) rfl rfl ?_
 show Wp _ pb231 _ _
 unfold pb231
 have g1:=Wi (left - (x_S.size:Int))
 refine Ud g1 ?_ ?_
 all_goals repeat intro hc
 ·exact ⟨-1,by simp [pf231],by omega,by omega,fun h => absurd h (by omega)⟩
 ·exact ⟨left - (x_S.size:Int),by simp [pf231],by omega,by omega,fun _ => by omega⟩

theorem t232b (k0:Bool) (l:List XVal) (left:Int) (h0:0≤left) (h1:left≤1048576) (hl:l.length≤9223372036854775807) (hok:XVal.oks l) :
  ∃ n,Gw TT 232 [.one (.ro k0 (.sl 3 (l.map XVal.e))),vi left] = some (vi n,[])∧-1≤n∧n≤left∧(0≤n→ctVals l≤31 * (left - n)):=by
 refine Gw_ofI (F:=pf232) rfl rfl ?_
 show Wp _ pb232 _ _
 unfold pb232
 have g:=Wi (left - (l.length:Int))
 refine Ud g ?_ ?_
 all_goals repeat intro hc
 ·exact ⟨-1,by simp [pf232],by omega,by omega,fun h => absurd h (by omega)⟩
 ·refine wp_loopI (σ:=List XVal × List XVal × Int) (fun s => [(0,AV.v k0 (D.sl 3 (List.map XVal.e l)),none),(1,AV.v false (di s.2.2),none),(5,AV.v false (di (s.1.length:Nat)),none)]) (fun s => l = s.1 ++ s.2.1∧0≤s.2.2∧s.2.2≤left - (l.length:Int)∧ctVals s.1≤31 * (left - (l.length:Int) - s.2.2) + 3 * (s.1.length:Int)) (fun s => s.2.1.length) ([],l,left - (l.length:Int)) (by simp) ⟨rfl,by simp only; omega,by simp only; omega,by simp [ctVals]⟩ ?_
  rintro ⟨pre,rest,lf⟩ ⟨h2,h3,h4,h5⟩
  simp only at h2 h3 h4 h5
  subst h2
  simp only [List.length_append,List.length_cons] at hl h4 h5 g
  rcases rest with _ | ⟨⟨a,y_N,y_S⟩,rest⟩
  ·unfold pl232_0
   refine Ud Oo ?_
   repeat intro hc
   simp only [List.length_nil] at h4 h5
   all_goals exact ⟨lf,by simp [pf232],by omega,by omega,fun _ => by simp only [List.append_nil]; omega⟩
  ·unfold pl232_0
   simp only [List.length_cons] at hl h4 h5
   have hw:=Wi ((pre.length:Int) + 1)
   have hap:=ctVals_app pre ⟨a,y_N,y_S⟩
   simp only [ctVal] at hap
   have hd:=hok ⟨a,y_N,y_S⟩ (by simp)
   simp only [XVal.ok,and_assoc] at hd
   obtain ⟨ab,ac,ad,ae,aa⟩:=hd
   obtain ⟨n1,g1,a1,b1,s1⟩:=t231b a y_N y_S lf (by omega) (by omega) aa
   refine Ud (J2 g1 hw) ?_ ?_
   all_goals repeat intro hc
   ·exact ⟨-1,by simp [pf232],by omega,by omega,fun h => absurd h (by omega)⟩
   ·have hq:=s1 (by omega)
    skip
    exact ⟨(pre ++ [⟨a,y_N,y_S⟩],rest,n1),by simp,⟨by simp,by simp only; omega,by simp only [List.length_append,List.length_cons]; omega,by simp only [List.length_append,List.length_cons,List.length_nil]; omega⟩,by simp⟩

theorem t225b (k0:Bool) (a:Int) (x_L:List XVal) (left:Int) (h0:0≤left) (h1:left≤1048576) (aa:x_L.length≤9223372036854775807) (ab:XVal.oks x_L) :
  ∃ n,Gw TT 225 [.st [.ro false (di a),.ro k0 (.sl 3 (x_L.map XVal.e))],vi left] = some (vi n,[])∧-1≤n∧n≤left∧(0≤n→ctVals x_L≤31 * (left - n)):=by
 refine Gw_ofI (F:=pf225) rfl rfl ?_
 show Wp _ pb225 _ _
 unfold pb225
 have ac:=ctVals_nn x_L
 obtain ⟨n1,g1,a1,b1,s1⟩:=t232b k0 x_L left (by omega) (by omega) aa ab
 refine Ud g1 ?_ ?_
 all_goals repeat intro hc
 ·exact ⟨-1,by simp [pf225],by omega,by omega,fun h => absurd h (by omega)⟩
 have q1:=s1 (by omega)
 ·exact ⟨n1,by simp [pf225],by omega,by omega,fun _ => by omega⟩

theorem t226b (k0:Bool) (l:List XRow) (left:Int) (h0:0≤left) (h1:left≤1048576) (hl:l.length≤9223372036854775807) (hok:XRow.oks l) :
  ∃ n,Gw TT 226 [.one (.ro k0 (.sl 2 (l.map XRow.e))),vi left] = some (vi n,[])∧-1≤n∧n≤left∧(0≤n→ctRows l≤31 * (left - n)):=by
 refine Gw_ofI (F:=pf226) rfl rfl ?_
 show Wp _ pb226 _ _
 unfold pb226
 have g:=Wi (left - (l.length:Int))
 refine Ud g ?_ ?_
 all_goals repeat intro hc
 ·exact ⟨-1,by simp [pf226],by omega,by omega,fun h => absurd h (by omega)⟩
 ·refine wp_loopI (σ:=List XRow × List XRow × Int) (fun s => [(0,AV.v k0 (D.sl 2 (List.map XRow.e l)),none),(1,AV.v false (di s.2.2),none),(5,AV.v false (di (s.1.length:Nat)),none)]) (fun s => l = s.1 ++ s.2.1∧0≤s.2.2∧s.2.2≤left - (l.length:Int)∧ctRows s.1≤31 * (left - (l.length:Int) - s.2.2) + 1 * (s.1.length:Int)) (fun s => s.2.1.length) ([],l,left - (l.length:Int)) (by simp) ⟨rfl,by simp only; omega,by simp only; omega,by simp [ctRows]⟩ ?_
  rintro ⟨pre,rest,lf⟩ ⟨h2,h3,h4,h5⟩
  simp only at h2 h3 h4 h5
  subst h2
  simp only [List.length_append,List.length_cons] at hl h4 h5 g
  rcases rest with _ | ⟨⟨a,y_L⟩,rest⟩
  ·unfold pl226_0
   refine Ud Oo ?_
   repeat intro hc
   simp only [List.length_nil] at h4 h5
   all_goals exact ⟨lf,by simp [pf226],by omega,by omega,fun _ => by simp only [List.append_nil]; omega⟩
  ·unfold pl226_0
   simp only [List.length_cons] at hl h4 h5
   have hw:=Wi ((pre.length:Int) + 1)
   have hap:=ctRows_app pre ⟨a,y_L⟩
   simp only [ctRow] at hap
   have hd:=hok ⟨a,y_L⟩ (by simp)
   simp only [XRow.ok,and_assoc] at hd
   obtain ⟨ac,ad,aa,ab⟩:=hd
   obtain ⟨n1,g1,a1,b1,s1⟩:=t225b k0 a y_L lf (by omega) (by omega) aa ab
   refine Ud (J2 g1 hw) ?_ ?_
   all_goals repeat intro hc
   ·exact ⟨-1,by simp [pf226],by omega,by omega,fun h => absurd h (by omega)⟩
   ·have hq:=s1 (by omega)
    skip
    exact ⟨(pre ++ [⟨a,y_L⟩],rest,n1),by simp,⟨by simp,by simp only; omega,by simp only [List.length_append,List.length_cons]; omega,by simp only [List.length_append,List.length_cons,List.length_nil]; omega⟩,by simp⟩

theorem t215b (k0:Bool) (l:List XDead) (left:Int) (h0:0≤left) (h1:left≤1048576) (hl:l.length≤9223372036854775807) :
  ∃ n,Gw TT 215 [.one (.ro k0 (.sl 3 (l.map XDead.e))),vi left] = some (vi n,[])∧-1≤n∧n≤left∧(0≤n→ctDeads l≤31 * (left - n)):=by
 refine Gw_ofI (F:=pf215) rfl rfl ?_
 show Wp _ pb215 _ _
 unfold pb215
 have g:=Wi (left - (l.length:Int))
 refine Ud g ?_ ?_
 all_goals repeat intro hc
 ·exact ⟨-1,by simp [pf215],by omega,by omega,fun h => absurd h (by omega)⟩
 ·have hq:=ctDeads_le l
  exact ⟨left - (l.length:Int),by simp [pf215],by omega,by omega,fun _ => by omega⟩

theorem t223b (k0:Bool) (l:List XRef) (left:Int) (h0:0≤left) (h1:left≤1048576) (hl:l.length≤9223372036854775807) :
  ∃ n,Gw TT 223 [.one (.ro k0 (.sl 5 (l.map XRef.e))),vi left] = some (vi n,[])∧-1≤n∧n≤left∧(0≤n→ctRefs l≤31 * (left - n)):=by
 refine Gw_ofI (F:=pf223) rfl rfl ?_
 show Wp _ pb223 _ _
 unfold pb223
 have g:=Wi (left - (l.length:Int))
 refine Ud g ?_ ?_
 all_goals repeat intro hc
 ·exact ⟨-1,by simp [pf223],by omega,by omega,fun h => absurd h (by omega)⟩
 ·have hq:=ctRefs_le l
  exact ⟨left - (l.length:Int),by simp [pf223],by omega,by omega,fun _ => by omega⟩

theorem t218b (k0:Bool) (a:Int) (x_L:List XRef) (left:Int) (h0:0≤left) (h1:left≤1048576) (aa:x_L.length≤9223372036854775807) :
  ∃ n,Gw TT 218 [.st [.ro false (di a),.ro k0 (.sl 5 (x_L.map XRef.e))],vi left] = some (vi n,[])∧-1≤n∧n≤left∧(0≤n→ctRefs x_L≤31 * (left - n)):=by
 refine Gw_ofI (F:=pf218) rfl rfl ?_
 show Wp _ pb218 _ _
 unfold pb218
 have ab:=ctRefs_nn x_L
 obtain ⟨n1,g1,a1,b1,s1⟩:=t223b k0 x_L left (by omega) (by omega) aa
 refine Ud g1 ?_ ?_
 all_goals repeat intro hc
 ·exact ⟨-1,by simp [pf218],by omega,by omega,fun h => absurd h (by omega)⟩
 have q1:=s1 (by omega)
 ·exact ⟨n1,by simp [pf218],by omega,by omega,fun _ => by omega⟩

theorem t227b (k0:Bool) (a:Int) (x_L:List XVal) (left:Int) (h0:0≤left) (h1:left≤1048576) (aa:x_L.length≤9223372036854775807) (ab:XVal.oks x_L) :
  ∃ n,Gw TT 227 [.st [.ro false (di a),.ro k0 (.sl 3 (x_L.map XVal.e))],vi left] = some (vi n,[])∧-1≤n∧n≤left∧(0≤n→ctVals x_L≤31 * (left - n)):=by
 refine Gw_ofI (F:=pf227) rfl rfl ?_
 show Wp _ pb227 _ _
 unfold pb227
 have ac:=ctVals_nn x_L
 obtain ⟨n1,g1,a1,b1,s1⟩:=t232b k0 x_L left (by omega) (by omega) aa ab
 refine Ud g1 ?_ ?_
 all_goals repeat intro hc
 ·exact ⟨-1,by simp [pf227],by omega,by omega,fun h => absurd h (by omega)⟩
 have q1:=s1 (by omega)
 ·exact ⟨n1,by simp [pf227],by omega,by omega,fun _ => by omega⟩

theorem t228b (k0:Bool) (l:List XSlot) (left:Int) (h0:0≤left) (h1:left≤1048576) (hl:l.length≤9223372036854775807) (hok:XSlot.oks l) :
  ∃ n,Gw TT 228 [.one (.ro k0 (.sl 2 (l.map XSlot.e))),vi left] = some (vi n,[])∧-1≤n∧n≤left∧(0≤n→ctSlots l≤31 * (left - n)):=by
 refine Gw_ofI (F:=pf228) rfl rfl ?_
 show Wp _ pb228 _ _
 unfold pb228
 have g:=Wi (left - (l.length:Int))
 refine Ud g ?_ ?_
 all_goals repeat intro hc
 ·exact ⟨-1,by simp [pf228],by omega,by omega,fun h => absurd h (by omega)⟩
 ·refine wp_loopI (σ:=List XSlot × List XSlot × Int) (fun s => [(0,AV.v k0 (D.sl 2 (List.map XSlot.e l)),none),(1,AV.v false (di s.2.2),none),(5,AV.v false (di (s.1.length:Nat)),none)]) (fun s => l = s.1 ++ s.2.1∧0≤s.2.2∧s.2.2≤left - (l.length:Int)∧ctSlots s.1≤31 * (left - (l.length:Int) - s.2.2) + 1 * (s.1.length:Int)) (fun s => s.2.1.length) ([],l,left - (l.length:Int)) (by simp) ⟨rfl,by simp only; omega,by simp only; omega,by simp [ctSlots]⟩ ?_
  rintro ⟨pre,rest,lf⟩ ⟨h2,h3,h4,h5⟩
  simp only at h2 h3 h4 h5
  subst h2
  simp only [List.length_append,List.length_cons] at hl h4 h5 g
  rcases rest with _ | ⟨⟨a,y_L⟩,rest⟩
  ·unfold pl228_0
   refine Ud Oo ?_
   repeat intro hc
   simp only [List.length_nil] at h4 h5
   all_goals exact ⟨lf,by simp [pf228],by omega,by omega,fun _ => by simp only [List.append_nil]; omega⟩
  ·unfold pl228_0
   simp only [List.length_cons] at hl h4 h5
   have hw:=Wi ((pre.length:Int) + 1)
   have hap:=ctSlots_app pre ⟨a,y_L⟩
   simp only [ctSlot] at hap
   have hd:=hok ⟨a,y_L⟩ (by simp)
   simp only [XSlot.ok,and_assoc] at hd
   obtain ⟨ac,ad,aa,ab⟩:=hd
   obtain ⟨n1,g1,a1,b1,s1⟩:=t227b k0 a y_L lf (by omega) (by omega) aa ab
   refine Ud (J2 g1 hw) ?_ ?_
   all_goals repeat intro hc
   ·exact ⟨-1,by simp [pf228],by omega,by omega,fun h => absurd h (by omega)⟩
   ·have hq:=s1 (by omega)
    skip
    exact ⟨(pre ++ [⟨a,y_L⟩],rest,n1),by simp,⟨by simp,by simp only; omega,by simp only [List.length_append,List.length_cons]; omega,by simp only [List.length_append,List.length_cons,List.length_nil]; omega⟩,by simp⟩

theorem t213b (k0:Bool) (a:Int) (x_L:List XSlot) (left:Int) (h0:0≤left) (h1:left≤1048576) (aa:x_L.length≤9223372036854775807) (ab:XSlot.oks x_L) :
  ∃ n,Gw TT 213 [.st [.ro false (di a),.ro k0 (.sl 2 (x_L.map XSlot.e))],vi left] = some (vi n,[])∧-1≤n∧n≤left∧(0≤n→ctSlots x_L≤31 * (left - n)):=by
 refine Gw_ofI (F:=pf213) rfl rfl ?_
 show Wp _ pb213 _ _
 unfold pb213
 have ac:=ctSlots_nn x_L
 obtain ⟨n1,g1,a1,b1,s1⟩:=t228b k0 x_L left (by omega) (by omega) aa ab
 refine Ud g1 ?_ ?_
 all_goals repeat intro hc
 ·exact ⟨-1,by simp [pf213],by omega,by omega,fun h => absurd h (by omega)⟩
 have q1:=s1 (by omega)
 ·exact ⟨n1,by simp [pf213],by omega,by omega,fun _ => by omega⟩

theorem t210b (k0:Bool) (ab ac aa:Int) (a:List XSlot) (x_G:List Int) (left:Int) (h0:0≤left) (h1:left≤1048576) (ad:a.length≤9223372036854775807) (ae:XSlot.oks a) (af:x_G.length≤9223372036854775807) :
  ∃ n,Gw TT 210 [.st [.ro false (di ab),.ro false (di ac),.ro false (di aa),.ro k0 (.sl 2 (a.map XSlot.e)),.ro k0 (.sl 1 (x_G.map eb))],vi left] = some (vi n,[])∧-1≤n∧n≤left∧(0≤n→ctSlots a + ctBytes x_G≤31 * (left - n)):=by
 refine Gw_ofI (F:=pf210) rfl rfl ?_
 show Wp _ pb210 _ _
 unfold pb210
 have ag:=ctSlots_nn a
 have ah:=ctBytes_nn x_G
 obtain ⟨n1,g1,a1,b1,s1⟩:=t213b k0 aa a left (by omega) (by omega) ad ae
 refine Ud g1 ?_ ?_
 all_goals repeat intro hc
 ·exact ⟨-1,by simp [pf210],by omega,by omega,fun h => absurd h (by omega)⟩
 have q1:=s1 (by omega)
 obtain ⟨n2,g2,a2,b2,s2⟩:=t212b k0 x_G n1 (by omega) (by omega) af
 refine Ud g2 ?_ ?_
 all_goals repeat intro hc
 ·exact ⟨-1,by simp [pf210],by omega,by omega,fun h => absurd h (by omega)⟩
 have q2:=s2 (by omega)
 ·exact ⟨n2,by simp [pf210],by omega,by omega,fun _ => by omega⟩

theorem t211b (k0:Bool) (l:List XBuf) (left:Int) (h0:0≤left) (h1:left≤1048576) (hl:l.length≤9223372036854775807) (hok:XBuf.oks l) :
  ∃ n,Gw TT 211 [.one (.ro k0 (.sl 5 (l.map XBuf.e))),vi left] = some (vi n,[])∧-1≤n∧n≤left∧(0≤n→ctBufs l≤31 * (left - n)):=by
 refine Gw_ofI (F:=pf211) rfl rfl ?_
 show Wp _ pb211 _ _
 unfold pb211
 have g:=Wi (left - (l.length:Int))
 refine Ud g ?_ ?_
 all_goals repeat intro hc
 ·exact ⟨-1,by simp [pf211],by omega,by omega,fun h => absurd h (by omega)⟩
 ·refine wp_loopI (σ:=List XBuf × List XBuf × Int) (fun s => [(0,AV.v k0 (D.sl 5 (List.map XBuf.e l)),none),(1,AV.v false (di s.2.2),none),(5,AV.v false (di (s.1.length:Nat)),none)]) (fun s => l = s.1 ++ s.2.1∧0≤s.2.2∧s.2.2≤left - (l.length:Int)∧ctBufs s.1≤31 * (left - (l.length:Int) - s.2.2) + 3 * (s.1.length:Int)) (fun s => s.2.1.length) ([],l,left - (l.length:Int)) (by simp) ⟨rfl,by simp only; omega,by simp only; omega,by simp [ctBufs]⟩ ?_
  rintro ⟨pre,rest,lf⟩ ⟨h2,h3,h4,h5⟩
  simp only at h2 h3 h4 h5
  subst h2
  simp only [List.length_append,List.length_cons] at hl h4 h5 g
  rcases rest with _ | ⟨⟨a,aa,⟨ab,ac⟩,y_G⟩,rest⟩
  ·unfold pl211_0
   refine Ud Oo ?_
   repeat intro hc
   simp only [List.length_nil] at h4 h5
   all_goals exact ⟨lf,by simp [pf211],by omega,by omega,fun _ => by simp only [List.append_nil]; omega⟩
  ·unfold pl211_0
   simp only [List.length_cons] at hl h4 h5
   have hw:=Wi ((pre.length:Int) + 1)
   have hap:=ctBufs_app pre ⟨a,aa,⟨ab,ac⟩,y_G⟩
   simp only [ctBuf] at hap
   have hd:=hok ⟨a,aa,⟨ab,ac⟩,y_G⟩ (by simp)
   simp only [XBuf.ok,XChunk.ok,and_assoc] at hd
   obtain ⟨ag,ah,ai,aj,ak,al,ad,ae,af,am⟩:=hd
   obtain ⟨n1,g1,a1,b1,s1⟩:=t210b k0 a aa ab ac y_G lf (by omega) (by omega) ad ae af
   refine Ud (J2 g1 hw) ?_ ?_
   all_goals repeat intro hc
   ·exact ⟨-1,by simp [pf211],by omega,by omega,fun h => absurd h (by omega)⟩
   ·have hq:=s1 (by omega)
    skip
    exact ⟨(pre ++ [⟨a,aa,⟨ab,ac⟩,y_G⟩],rest,n1),by simp,⟨by simp,by simp only; omega,by simp only [List.length_append,List.length_cons]; omega,by simp only [List.length_append,List.length_cons,List.length_nil]; omega⟩,by simp⟩

theorem t214b (k0:Bool) (a:List Int) (aa ab left:Int) (h0:0≤left) (h1:left≤1048576) (ac:a.length≤9223372036854775807) :
  ∃ n,Gw TT 214 [.st [.ro k0 (.sl 1 (a.map ei)),.ro false (di aa),.ro false (di ab)],vi left] = some (vi n,[])∧-1≤n∧n≤left∧(0≤n→ctInts a≤31 * (left - n)):=by
 refine Gw_ofI (F:=pf214) rfl rfl ?_
 show Wp _ pb214 _ _
 unfold pb214
 have ad:=ctInts_nn a
 obtain ⟨n1,g1,a1,b1,s1⟩:=t219b k0 a left (by omega) (by omega) ac
 refine Ud g1 ?_ ?_
 all_goals repeat intro hc
 ·exact ⟨-1,by simp [pf214],by omega,by omega,fun h => absurd h (by omega)⟩
 have q1:=s1 (by omega)
 ·exact ⟨n1,by simp [pf214],by omega,by omega,fun _ => by omega⟩

def SzbPred (x:XPred):Prop:=∀ (k0:Bool) (left:Int),0≤left→left≤1048576→x.ok→∃ n,Gw TT 220 [.st [.ro false (di x.Kind),.ro false (di x.Col),.ro false (di x.Op),.ro false (di x.V.Ty),.ro false (di x.V.N),.ro false (.str x.V.S),.ro k0 (.sl 7 (x.L.map XPred.e))],vi left] = some (vi n,[])∧-1≤n∧n≤left∧(0≤n→ctPreds x.L≤31 * (left - n))

def SzbPreds (l:List XPred):Prop:=∀ (k0:Bool) (left:Int),0≤left→left≤1048576→l.length≤9223372036854775807→XPred.oks l →
  ∃ n,Gw TT 221 [.one (.ro k0 (.sl 7 (l.map XPred.e))),vi left] = some (vi n,[])∧-1≤n∧n≤left∧(0≤n→ctPreds l≤31 * (left - n))

theorem SzbPreds_of (l:List XPred) (IH:∀ y ∈ l,SzbPred y):SzbPreds l:=by
 intro k0 left h0 h1 hl hok
 refine Gw_ofI (F:=pf221) rfl rfl ?_
 show Wp _ pb221 _ _
 unfold pb221
 have g:=Wi (left - (l.length:Int))
 refine Ud g ?_ ?_
 all_goals repeat intro hc
 ·exact ⟨-1,by simp [pf221],by omega,by omega,fun h => absurd h (by omega)⟩
 ·refine wp_loopI (σ:=List XPred × List XPred × Int) (fun s => [(0,AV.v k0 (D.sl 7 (List.map XPred.e l)),none),(1,AV.v false (di s.2.2),none),(5,AV.v false (di (s.1.length:Nat)),none)]) (fun s => l = s.1 ++ s.2.1∧0≤s.2.2∧s.2.2≤left - (l.length:Int)∧ctPreds s.1≤31 * (left - (l.length:Int) - s.2.2) + 6 * (s.1.length:Int)) (fun s => s.2.1.length) ([],l,left - (l.length:Int)) (by simp) ⟨rfl,by simp only; omega,by simp only; omega,by simp [ctPreds]⟩ ?_
  rintro ⟨pre,rest,lf⟩ ⟨h2,h3,h4,h5⟩
  simp only at h2 h3 h4 h5
  subst h2
  simp only [List.length_append,List.length_cons] at hl h4 h5 g
  rcases rest with _ | ⟨⟨a,aa,ab,⟨ac,ad,ae⟩,y_L⟩,rest⟩
  ·unfold pl221_0
   refine Ud Oo ?_
   repeat intro hc
   simp only [List.length_nil] at h4 h5
   all_goals exact ⟨lf,by simp [pf221],by omega,by omega,fun _ => by simp only [List.append_nil]; omega⟩
  ·unfold pl221_0
   simp only [List.length_cons] at hl h4 h5
   have hw:=Wi ((pre.length:Int) + 1)
   have hap:=ctPreds_app pre ⟨a,aa,ab,⟨ac,ad,ae⟩,y_L⟩
   simp only [ctPred] at hap
   obtain ⟨n1,g1,a1,b1,s1⟩:=IH ⟨a,aa,ab,⟨ac,ad,ae⟩,y_L⟩ (by simp) k0 lf (by omega) (by omega) (XPred.oks_mem hok ⟨a,aa,ab,⟨ac,ad,ae⟩,y_L⟩ (by simp))
   simp only at g1
   refine Ud (J2 g1 hw) ?_ ?_
   all_goals repeat intro hc
   ·exact ⟨-1,by simp [pf221],by omega,by omega,fun h => absurd h (by omega)⟩
   ·have hq:=s1 (by omega)
    simp only at hq
    exact ⟨(pre ++ [⟨a,aa,ab,⟨ac,ad,ae⟩,y_L⟩],rest,n1),by simp,⟨by simp,by simp only; omega,by simp only [List.length_append,List.length_cons]; omega,by simp only [List.length_append,List.length_cons,List.length_nil]; omega⟩,by simp⟩

theorem SzbPred_raw (x:XPred) (IH:SzbPreds x.L) (k0:Bool) (left:Int) (h0:0≤left) (h1:left≤1048576) (hv:x.V.S.size≤9223372036854775807) (hL:x.L.length≤9223372036854775807) (hs:XPred.oks x.L) :
  ∃ n,Gw TT 220 [.st [.ro false (di x.Kind),.ro false (di x.Col),.ro false (di x.Op),.ro false (di x.V.Ty),.ro false (di x.V.N),.ro false (.str x.V.S),.ro k0 (.sl 7 (x.L.map XPred.e))],vi left] = some (vi n,[])∧-1≤n∧n≤left∧(0≤n→ctPreds x.L≤31 * (left - n)):=by
 obtain ⟨af,ag,ah,⟨ac,ad,ae⟩,x_L⟩:=x
 have a:=hv
 have aa:=hL
 have ab:=hs
 simp only at a aa ab IH
 refine Gw_ofI (F:=pf220) rfl rfl ?_
 show Wp _ pb220 _ _
 unfold pb220
 have ai:=ctPreds_nn x_L
 obtain ⟨n1,g1,a1,b1,s1⟩:=t231b ac ad ae left (by omega) (by omega) a
 refine Ud g1 ?_ ?_
 all_goals repeat intro hc
 ·exact ⟨-1,by simp [pf220],by omega,by omega,fun h => absurd h (by omega)⟩
 have q1:=s1 (by omega)
 obtain ⟨n2,g2,a2,b2,s2⟩:=IH k0 n1 (by omega) (by omega) aa ab
 try simp only at g2
 refine Ud g2 ?_ ?_
 all_goals repeat intro hc
 ·exact ⟨-1,by simp [pf220],by omega,by omega,fun h => absurd h (by omega)⟩
 have q2:=s2 (by omega)
 ·exact ⟨n2,by simp [pf220],by omega,by omega,fun _ => by simp only; omega⟩

theorem SzbPred_of (x:XPred) (IH:SzbPreds x.L):SzbPred x:=by
 intro k0 left h0 h1 hx
 obtain ⟨ac,ad,ae,⟨af,ag,ah⟩,x_L⟩:=x
 simp only [XPred.ok_eq,XVal.ok,and_assoc] at hx
 obtain ⟨_,_,_,_,_,_,_,_,_,_,a,aa,ab⟩:=hx
 exact SzbPred_raw _ IH k0 left h0 h1 a aa ab

theorem SzbPred_all (x:XPred):SzbPred x :=
 SzbPred_of x (SzbPreds_of x.L fun y hy => SzbPred_all y)
termination_by SizeOf.sizeOf x
decreasing_by
 have h1:=List.sizeOf_lt_of_mem hy
 have h2:SizeOf.sizeOf x.L < SizeOf.sizeOf x:=by cases x; simp; omega
 omega

theorem t220b (k0:Bool) (aa ab:Int) (ac ad ae:Int) (a:ByteArray) (x_L:List XPred) (left:Int) (h0:0≤left) (h1:left≤1048576) (af:a.size≤9223372036854775807) (ag:x_L.length≤9223372036854775807) (ah:XPred.oks x_L) :
  ∃ n,Gw TT 220 [.st [.ro false (di aa),.ro false (di ab),.ro false (di ac),.ro false (di ad),.ro false (di ae),.ro false (.str a),.ro k0 (.sl 7 (x_L.map XPred.e))],vi left] = some (vi n,[])∧-1≤n∧n≤left∧(0≤n→ctPreds x_L≤31 * (left - n)) :=
 SzbPred_raw ⟨aa,ab,ac,⟨ad,ae,a⟩,x_L⟩ (SzbPreds_of x_L fun y _ => SzbPred_all y) k0 left h0 h1 af ag ah

theorem t222b (k0:Bool) (ah ac:Int) (ad ae:Int) (af ag:Int) (ab:ByteArray) (a:List XPred) (ai:Int) (aa:List Int) (left:Int) (h0:0≤left) (h1:left≤1048576) (aj:ab.size≤9223372036854775807) (ak:a.length≤9223372036854775807) (al:XPred.oks a) (am:aa.length≤9223372036854775807) :
  ∃ n,Gw TT 222 [.st [.ro false (di ah),.ro false (di ac),.ro false (di ad),.ro false (di ae),.ro false (di af),.ro false (di ag),.ro false (.str ab),.ro k0 (.sl 7 (a.map XPred.e)),.ro false (di ai),.ro k0 (.sl 1 (aa.map ei))],vi left] = some (vi n,[])∧-1≤n∧n≤left∧(0≤n→ctPreds a + ctInts aa≤31 * (left - n)):=by
 refine Gw_ofI (F:=pf222) rfl rfl ?_
 show Wp _ pb222 _ _
 unfold pb222
 have an:=ctPreds_nn a
 have ao:=ctInts_nn aa
 obtain ⟨n1,g1,a1,b1,s1⟩:=t220b k0 ac ad ae af ag ab a left (by omega) (by omega) aj ak al
 refine Ud g1 ?_ ?_
 all_goals repeat intro hc
 ·exact ⟨-1,by simp [pf222],by omega,by omega,fun h => absurd h (by omega)⟩
 have q1:=s1 (by omega)
 obtain ⟨n2,g2,a2,b2,s2⟩:=t219b k0 aa n1 (by omega) (by omega) am
 refine Ud g2 ?_ ?_
 all_goals repeat intro hc
 ·exact ⟨-1,by simp [pf222],by omega,by omega,fun h => absurd h (by omega)⟩
 have q2:=s2 (by omega)
 ·exact ⟨n2,by simp [pf222],by omega,by omega,fun _ => by omega⟩

theorem t224b (k0:Bool) (a:List XRow) (x_N:Int) (ad:Bool) (ab ac:Int) (aa:ByteArray) (left:Int) (h0:0≤left) (h1:left≤1048576) (ae:a.length≤9223372036854775807) (af:XRow.oks a) (ag:aa.size≤9223372036854775807) :
  ∃ n,Gw TT 224 [.st [.ro k0 (.sl 2 (a.map XRow.e)),.ro false (di x_N),.ro false (.bool ad),.ro false (di ab),.ro false (di ac),.ro false (.str aa)],vi left] = some (vi n,[])∧-1≤n∧n≤left∧(0≤n→ctRows a≤31 * (left - n)):=by
 refine Gw_ofI (F:=pf224) rfl rfl ?_
 show Wp _ pb224 _ _
 unfold pb224
 have ah:=ctRows_nn a
 obtain ⟨n1,g1,a1,b1,s1⟩:=t226b k0 a left (by omega) (by omega) ae af
 refine Ud g1 ?_ ?_
 all_goals repeat intro hc
 ·exact ⟨-1,by simp [pf224],by omega,by omega,fun h => absurd h (by omega)⟩
 have q1:=s1 (by omega)
 obtain ⟨n2,g2,a2,b2,s2⟩:=t231b ab ac aa n1 (by omega) (by omega) ag
 refine Ud g2 ?_ ?_
 all_goals repeat intro hc
 ·exact ⟨-1,by simp [pf224],by omega,by omega,fun h => absurd h (by omega)⟩
 have q2:=s2 (by omega)
 ·exact ⟨n2,by simp [pf224],by omega,by omega,fun _ => by omega⟩

theorem t229b (k0:Bool) (ak al x_H:Int) (x_R:List XVal) (am ad:Int) (ae af:Int) (ag ah ai:Int) (ac:ByteArray) (a:List XPred) (aj:Int) (ab:List Int) (an ao:Int) (x_L:List XRef) (x_I x_J:Int) (x_S ap aq:Int) (ar:Bool) (aa:List XRow) (left:Int) (h0:0≤left) (h1:left≤1048576) (au:x_R.length≤9223372036854775807) (av:XVal.oks x_R) (aw:ac.size≤9223372036854775807) (ax:a.length≤9223372036854775807) (ay:XPred.oks a) (az:ab.length≤9223372036854775807) (aA:x_L.length≤9223372036854775807) (aB:aa.length≤9223372036854775807) (aC:XRow.oks aa) :
  ∃ n,Gw TT 229 [.st [.ro false (di ak),.ro false (di al),.ro false (di x_H),.ro k0 (.sl 3 (x_R.map XVal.e)),.ro false (di am),.ro false (di ad),.ro false (di ae),.ro false (di af),.ro false (di ag),.ro false (di ah),.ro false (di ai),.ro false (.str ac),.ro k0 (.sl 7 (a.map XPred.e)),.ro false (di aj),.ro k0 (.sl 1 (ab.map ei)),.ro false (di an),.ro false (di ao),.ro k0 (.sl 5 (x_L.map XRef.e)),.ro false (di x_I),.ro false (di x_J),.ro false (di x_S),.ro false (di ap),.ro false (di aq),.ro false (.bool ar),.ro k0 (.sl 2 (aa.map XRow.e))],vi left] = some (vi n,[])∧-1≤n∧n≤left∧(0≤n→ctVals x_R + ctPreds a + ctInts ab + ctRefs x_L + ctRows aa≤31 * (left - n)):=by
 refine Gw_ofI (F:=pf229) rfl rfl ?_
 show Wp _ pb229 _ _
 unfold pb229
 have aD:=ctVals_nn x_R
 have aE:=ctPreds_nn a
 have aF:=ctInts_nn ab
 have aG:=ctRefs_nn x_L
 have aH:=ctRows_nn aa
 obtain ⟨n1,g1,a1,b1,s1⟩:=t232b k0 x_R left (by omega) (by omega) au av
 refine Ud g1 ?_ ?_
 all_goals repeat intro hc
 ·exact ⟨-1,by simp [pf229],by omega,by omega,fun h => absurd h (by omega)⟩
 have q1:=s1 (by omega)
 obtain ⟨n2,g2,a2,b2,s2⟩:=t222b k0 ad ae af ag ah ai ac a aj ab n1 (by omega) (by omega) aw ax ay az
 refine Ud g2 ?_ ?_
 all_goals repeat intro hc
 ·exact ⟨-1,by simp [pf229],by omega,by omega,fun h => absurd h (by omega)⟩
 have q2:=s2 (by omega)
 obtain ⟨n3,g3,a3,b3,s3⟩:=t223b k0 x_L n2 (by omega) (by omega) aA
 refine Ud g3 ?_ ?_
 all_goals repeat intro hc
 ·exact ⟨-1,by simp [pf229],by omega,by omega,fun h => absurd h (by omega)⟩
 have q3:=s3 (by omega)
 obtain ⟨n4,g4,a4,b4,s4⟩:=t226b k0 aa n3 (by omega) (by omega) aB aC
 refine Ud g4 ?_ ?_
 all_goals repeat intro hc
 ·exact ⟨-1,by simp [pf229],by omega,by omega,fun h => absurd h (by omega)⟩
 have q4:=s4 (by omega)
 ·exact ⟨n4,by simp [pf229],by omega,by omega,fun _ => by omega⟩

theorem t230b (k0:Bool) (l:List XTask) (left:Int) (h0:0≤left) (h1:left≤1048576) (hl:l.length≤9223372036854775807) (hok:XTask.oks l) :
  ∃ n,Gw TT 230 [.one (.ro k0 (.sl 25 (l.map XTask.e))),vi left] = some (vi n,[])∧-1≤n∧n≤left∧(0≤n→ctTasks l≤31 * (left - n)):=by
 refine Gw_ofI (F:=pf230) rfl rfl ?_
 show Wp _ pb230 _ _
 unfold pb230
 have g:=Wi (left - (l.length:Int))
 refine Ud g ?_ ?_
 all_goals repeat intro hc
 ·exact ⟨-1,by simp [pf230],by omega,by omega,fun h => absurd h (by omega)⟩
 ·refine wp_loopI (σ:=List XTask × List XTask × Int) (fun s => [(0,AV.v k0 (D.sl 25 (List.map XTask.e l)),none),(1,AV.v false (di s.2.2),none),(5,AV.v false (di (s.1.length:Nat)),none)]) (fun s => l = s.1 ++ s.2.1∧0≤s.2.2∧s.2.2≤left - (l.length:Int)∧ctTasks s.1≤31 * (left - (l.length:Int) - s.2.2) + 20 * (s.1.length:Int)) (fun s => s.2.1.length) ([],l,left - (l.length:Int)) (by simp) ⟨rfl,by simp only; omega,by simp only; omega,by simp [ctTasks]⟩ ?_
  rintro ⟨pre,rest,lf⟩ ⟨h2,h3,h4,h5⟩
  simp only at h2 h3 h4 h5
  subst h2
  simp only [List.length_append,List.length_cons] at hl h4 h5 g
  rcases rest with _ | ⟨⟨a,aa,y_H,y_R,ab,⟨ac,⟨ad,ae,af,⟨ag,ah,ai⟩,aj⟩,ak,al⟩,am,an,y_L,y_I,y_J,y_S,ao,ap,aq,ar⟩,rest⟩
  ·unfold pl230_0
   refine Ud Oo ?_
   repeat intro hc
   simp only [List.length_nil] at h4 h5
   all_goals exact ⟨lf,by simp [pf230],by omega,by omega,fun _ => by simp only [List.append_nil]; omega⟩
  ·unfold pl230_0
   simp only [List.length_cons] at hl h4 h5
   have hw:=Wi ((pre.length:Int) + 1)
   have hap:=ctTasks_app pre ⟨a,aa,y_H,y_R,ab,⟨ac,⟨ad,ae,af,⟨ag,ah,ai⟩,aj⟩,ak,al⟩,am,an,y_L,y_I,y_J,y_S,ao,ap,aq,ar⟩
   simp only [ctTask] at hap
   have hd:=hok ⟨a,aa,y_H,y_R,ab,⟨ac,⟨ad,ae,af,⟨ag,ah,ai⟩,aj⟩,ak,al⟩,am,an,y_L,y_I,y_J,y_S,ao,ap,aq,ar⟩ (by simp)
   simp only [XTask.ok,XQuery.ok,XPred.ok_eq,XVal.ok,and_assoc] at hd
   obtain ⟨aD,aE,aF,aG,aH,aI,au,av,aJ,aK,aL,aM,aN,aO,aP,aQ,aR,aS,aT,aU,aV,aW,aw,ax,ay,aX,aY,az,aZ,a0,a2,a3,a4,aA,a5,a6,a7,a8,a9,b,ba,bb,bc,bd,be,aB,aC⟩:=hd
   obtain ⟨n1,g1,a1,b1,s1⟩:=t229b k0 a aa y_H y_R ab ac ad ae af ag ah ai aj ak al am an y_L y_I y_J y_S ao ap aq ar lf (by omega) (by omega) au av aw ax ay az aA aB aC
   refine Ud (J2 g1 hw) ?_ ?_
   all_goals repeat intro hc
   ·exact ⟨-1,by simp [pf230],by omega,by omega,fun h => absurd h (by omega)⟩
   ·have hq:=s1 (by omega)
    skip
    exact ⟨(pre ++ [⟨a,aa,y_H,y_R,ab,⟨ac,⟨ad,ae,af,⟨ag,ah,ai⟩,aj⟩,ak,al⟩,am,an,y_L,y_I,y_J,y_S,ao,ap,aq,ar⟩],rest,n1),by simp,⟨by simp,by simp only; omega,by simp only [List.length_append,List.length_cons]; omega,by simp only [List.length_append,List.length_cons,List.length_nil]; omega⟩,by simp⟩

theorem t216b (k0:Bool) (ap aq:Int) (x_R:List XVal) (ar ae:Int) (af ag:Int) (ah ai aj:Int) (ac:ByteArray) (a:List XPred) (ak:Int) (ab:List Int) (aa:List XRow) (al:Int) (am:Bool) (an ao:Int) (ad:ByteArray) (au av:Int) (aw ax:Int) (ay left:Int) (h0:0≤left) (h1:left≤1048576) (az:x_R.length≤9223372036854775807) (aA:XVal.oks x_R) (aB:ac.size≤9223372036854775807) (aC:a.length≤9223372036854775807) (aD:XPred.oks a) (aE:ab.length≤9223372036854775807) (aF:aa.length≤9223372036854775807) (aG:XRow.oks aa) (aH:ad.size≤9223372036854775807) :
  ∃ n,Gw TT 216 [.st [.ro false (di ap),.ro false (di aq),.ro k0 (.sl 3 (x_R.map XVal.e)),.ro false (di ar),.ro false (di ae),.ro false (di af),.ro false (di ag),.ro false (di ah),.ro false (di ai),.ro false (di aj),.ro false (.str ac),.ro k0 (.sl 7 (a.map XPred.e)),.ro false (di ak),.ro k0 (.sl 1 (ab.map ei)),.ro k0 (.sl 2 (aa.map XRow.e)),.ro false (di al),.ro false (.bool am),.ro false (di an),.ro false (di ao),.ro false (.str ad),.ro false (di au),.ro false (di av),.ro false (di aw),.ro false (di ax),.ro false (di ay)],vi left] = some (vi n,[])∧-1≤n∧n≤left∧(0≤n→ctVals x_R + ctPreds a + ctInts ab + ctRows aa≤31 * (left - n)):=by
 refine Gw_ofI (F:=pf216) rfl rfl ?_
 show Wp _ pb216 _ _
 unfold pb216
 have aI:=ctVals_nn x_R
 have aJ:=ctPreds_nn a
 have aK:=ctInts_nn ab
 have aL:=ctRows_nn aa
 obtain ⟨n1,g1,a1,b1,s1⟩:=t232b k0 x_R left (by omega) (by omega) az aA
 refine Ud g1 ?_ ?_
 all_goals repeat intro hc
 ·exact ⟨-1,by simp [pf216],by omega,by omega,fun h => absurd h (by omega)⟩
 have q1:=s1 (by omega)
 obtain ⟨n2,g2,a2,b2,s2⟩:=t222b k0 ae af ag ah ai aj ac a ak ab n1 (by omega) (by omega) aB aC aD aE
 refine Ud g2 ?_ ?_
 all_goals repeat intro hc
 ·exact ⟨-1,by simp [pf216],by omega,by omega,fun h => absurd h (by omega)⟩
 have q2:=s2 (by omega)
 obtain ⟨n3,g3,a3,b3,s3⟩:=t224b k0 aa al am an ao ad n2 (by omega) (by omega) aF aG aH
 refine Ud g3 ?_ ?_
 all_goals repeat intro hc
 ·exact ⟨-1,by simp [pf216],by omega,by omega,fun h => absurd h (by omega)⟩
 have q3:=s3 (by omega)
 ·exact ⟨n3,by simp [pf216],by omega,by omega,fun _ => by omega⟩

theorem t217b (k0:Bool) (l:List XDeed) (left:Int) (h0:0≤left) (h1:left≤1048576) (hl:l.length≤9223372036854775807) (hok:XDeed.oks l) :
  ∃ n,Gw TT 217 [.one (.ro k0 (.sl 25 (l.map XDeed.e))),vi left] = some (vi n,[])∧-1≤n∧n≤left∧(0≤n→ctDeeds l≤31 * (left - n)):=by
 refine Gw_ofI (F:=pf217) rfl rfl ?_
 show Wp _ pb217 _ _
 unfold pb217
 have g:=Wi (left - (l.length:Int))
 refine Ud g ?_ ?_
 all_goals repeat intro hc
 ·exact ⟨-1,by simp [pf217],by omega,by omega,fun h => absurd h (by omega)⟩
 ·refine wp_loopI (σ:=List XDeed × List XDeed × Int) (fun s => [(0,AV.v k0 (D.sl 25 (List.map XDeed.e l)),none),(1,AV.v false (di s.2.2),none),(5,AV.v false (di (s.1.length:Nat)),none)]) (fun s => l = s.1 ++ s.2.1∧0≤s.2.2∧s.2.2≤left - (l.length:Int)∧ctDeeds s.1≤31 * (left - (l.length:Int) - s.2.2) + 21 * (s.1.length:Int)) (fun s => s.2.1.length) ([],l,left - (l.length:Int)) (by simp) ⟨rfl,by simp only; omega,by simp only; omega,by simp [ctDeeds]⟩ ?_
  rintro ⟨pre,rest,lf⟩ ⟨h2,h3,h4,h5⟩
  simp only at h2 h3 h4 h5
  subst h2
  simp only [List.length_append,List.length_cons] at hl h4 h5 g
  rcases rest with _ | ⟨⟨a,aa,y_R,ab,⟨ac,⟨ad,ae,af,⟨ag,ah,ai⟩,aj⟩,ak,al⟩,⟨am,an,ao,⟨ap,aq,ar⟩⟩,au,av,aw,ax,ay⟩,rest⟩
  ·unfold pl217_0
   refine Ud Oo ?_
   repeat intro hc
   simp only [List.length_nil] at h4 h5
   all_goals exact ⟨lf,by simp [pf217],by omega,by omega,fun _ => by simp only [List.append_nil]; omega⟩
  ·unfold pl217_0
   simp only [List.length_cons] at hl h4 h5
   have hw:=Wi ((pre.length:Int) + 1)
   have hap:=ctDeeds_app pre ⟨a,aa,y_R,ab,⟨ac,⟨ad,ae,af,⟨ag,ah,ai⟩,aj⟩,ak,al⟩,⟨am,an,ao,⟨ap,aq,ar⟩⟩,au,av,aw,ax,ay⟩
   simp only [ctDeed] at hap
   have hd:=hok ⟨a,aa,y_R,ab,⟨ac,⟨ad,ae,af,⟨ag,ah,ai⟩,aj⟩,ak,al⟩,⟨am,an,ao,⟨ap,aq,ar⟩⟩,au,av,aw,ax,ay⟩ (by simp)
   simp only [XDeed.ok,XQuery.ok,XPred.ok_eq,XVal.ok,XResult.ok,and_assoc] at hd
   obtain ⟨aI,aJ,aK,aL,az,aA,aM,aN,aO,aP,aQ,aR,aS,aT,aU,aV,aW,aX,aY,aZ,aB,aC,aD,a0,a2,aE,a3,aF,aG,a4,a5,a6,a7,a8,a9,aH,b,ba,bb,bc,bd,be,bf,bg,bh,bi⟩:=hd
   obtain ⟨n1,g1,a1,b1,s1⟩:=t216b k0 a aa y_R ab ac ad ae af ag ah ai aj ak al am an ao ap aq ar au av aw ax ay lf (by omega) (by omega) az aA aB aC aD aE aF aG aH
   refine Ud (J2 g1 hw) ?_ ?_
   all_goals repeat intro hc
   ·exact ⟨-1,by simp [pf217],by omega,by omega,fun h => absurd h (by omega)⟩
   ·have hq:=s1 (by omega)
    skip
    exact ⟨(pre ++ [⟨a,aa,y_R,ab,⟨ac,⟨ad,ae,af,⟨ag,ah,ai⟩,aj⟩,ak,al⟩,⟨am,an,ao,⟨ap,aq,ar⟩⟩,au,av,aw,ax,ay⟩],rest,n1),by simp,⟨by simp,by simp only; omega,by simp only [List.length_append,List.length_cons]; omega,by simp only [List.length_append,List.length_cons,List.length_nil]; omega⟩,by simp⟩

theorem t233b (k0:Bool) (ab:List Int) (ad ae:Int) (ag x_T:Int) (x_E af:Int) (ac:List XRef) (x_B:List XBuf) (x_M:List Int) (x_X:List XDead) (x_P:List Int) (a:List XTask) (aa:List XDeed) (left:Int) (h0:0≤left) (h1:left≤1048576) (ah:ab.length≤9223372036854775807) (ai:ac.length≤9223372036854775807) (aj:x_B.length≤9223372036854775807) (ak:XBuf.oks x_B) (al:x_M.length≤9223372036854775807) (am:x_X.length≤9223372036854775807) (an:x_P.length≤9223372036854775807) (ao:a.length≤9223372036854775807) (ap:XTask.oks a) (aq:aa.length≤9223372036854775807) (ar:XDeed.oks aa) :
  ∃ n,Gw TT 233 [.st [.ro k0 (.sl 1 (ab.map ei)),.ro false (di ad),.ro false (di ae),.ro false (di ag),.ro false (di x_T),.ro false (di x_E),.ro false (di af),.ro k0 (.sl 5 (ac.map XRef.e)),.ro k0 (.sl 5 (x_B.map XBuf.e)),.ro k0 (.sl 1 (x_M.map ei)),.ro k0 (.sl 3 (x_X.map XDead.e)),.ro k0 (.sl 1 (x_P.map ei)),.ro k0 (.sl 25 (a.map XTask.e)),.ro k0 (.sl 25 (aa.map XDeed.e))],vi left] = some (vi n,[])∧-1≤n∧n≤left∧(0≤n→ctInts ab + ctRefs ac + ctBufs x_B + ctInts x_M + ctDeads x_X + ctInts x_P + ctTasks a + ctDeeds aa≤31 * (left - n)):=by
 refine Gw_ofI (F:=pf233) rfl rfl ?_
 show Wp _ pb233 _ _
 unfold pb233
 have au:=ctInts_nn ab
 have av:=ctRefs_nn ac
 have aw:=ctBufs_nn x_B
 have ax:=ctInts_nn x_M
 have ay:=ctDeads_nn x_X
 have az:=ctInts_nn x_P
 have aA:=ctTasks_nn a
 have aB:=ctDeeds_nn aa
 obtain ⟨n1,g1,a1,b1,s1⟩:=t214b k0 ab ad ae left (by omega) (by omega) ah
 refine Ud g1 ?_ ?_
 all_goals repeat intro hc
 ·exact ⟨-1,by simp [pf233],by omega,by omega,fun h => absurd h (by omega)⟩
 have q1:=s1 (by omega)
 obtain ⟨n2,g2,a2,b2,s2⟩:=t218b k0 af ac n1 (by omega) (by omega) ai
 refine Ud g2 ?_ ?_
 all_goals repeat intro hc
 ·exact ⟨-1,by simp [pf233],by omega,by omega,fun h => absurd h (by omega)⟩
 have q2:=s2 (by omega)
 obtain ⟨n3,g3,a3,b3,s3⟩:=t211b k0 x_B n2 (by omega) (by omega) aj ak
 refine Ud g3 ?_ ?_
 all_goals repeat intro hc
 ·exact ⟨-1,by simp [pf233],by omega,by omega,fun h => absurd h (by omega)⟩
 have q3:=s3 (by omega)
 obtain ⟨n4,g4,a4,b4,s4⟩:=t219b k0 x_M n3 (by omega) (by omega) al
 refine Ud g4 ?_ ?_
 all_goals repeat intro hc
 ·exact ⟨-1,by simp [pf233],by omega,by omega,fun h => absurd h (by omega)⟩
 have q4:=s4 (by omega)
 obtain ⟨n5,g5,a5,b5,s5⟩:=t215b k0 x_X n4 (by omega) (by omega) am
 refine Ud g5 ?_ ?_
 all_goals repeat intro hc
 ·exact ⟨-1,by simp [pf233],by omega,by omega,fun h => absurd h (by omega)⟩
 have q5:=s5 (by omega)
 obtain ⟨n6,g6,a6,b6,s6⟩:=t219b k0 x_P n5 (by omega) (by omega) an
 refine Ud g6 ?_ ?_
 all_goals repeat intro hc
 ·exact ⟨-1,by simp [pf233],by omega,by omega,fun h => absurd h (by omega)⟩
 have q6:=s6 (by omega)
 obtain ⟨n7,g7,a7,b7,s7⟩:=t230b k0 a n6 (by omega) (by omega) ao ap
 refine Ud g7 ?_ ?_
 all_goals repeat intro hc
 ·exact ⟨-1,by simp [pf233],by omega,by omega,fun h => absurd h (by omega)⟩
 have q7:=s7 (by omega)
 obtain ⟨n8,g8,a8,b8,s8⟩:=t217b k0 aa n7 (by omega) (by omega) aq ar
 refine Ud g8 ?_ ?_
 all_goals repeat intro hc
 ·exact ⟨-1,by simp [pf233],by omega,by omega,fun h => absurd h (by omega)⟩
 have q8:=s8 (by omega)
 ·exact ⟨n8,by simp [pf233],by omega,by omega,fun _ => by omega⟩

theorem bl_loop (bs:ByteArray):∀ (k i:Nat) (r:List UInt8),bs.size - i = k→(ByteArray.toList.loop bs i r).length = k + r.length
 | 0,i,r,h => by
  rw [ByteArray.toList.loop,if_neg (by omega)]; simp
 | k + 1,i,r,h => by
  rw [ByteArray.toList.loop,if_pos (by omega),bl_loop bs k (i + 1) _ (by omega)]; simp; omega

theorem bl_len (bs:ByteArray):bs.toList.length = bs.size:=by
 unfold ByteArray.toList
 rw [bl_loop bs bs.size 0 [] (by omega)]; simp

def okc (b:UInt8):Bool:=decide ((97≤b.toNat∧b.toNat≤122) ∨ (48≤b.toNat∧b.toNat≤57))

def textB:List UInt8→Bool
 | [] => true
 | b :: l => if okc b = true then textB l else false

def numB (n:Int):Bool:=decide (-1000000000≤n) && decide (n≤1000000000)

def valOkF (ty n:Int) (s:ByteArray):Bool:=if ty = 1 then numB n && (s.toList == (⟨#[]⟩:ByteArray).toList) else (decide (ty = 2) && (decide (n = 0) && (decide (s.size≤6) && textB s.toList)))

@[simp] theorem t79 (n:Int):Gw TT 79 [vi n] = some (vb (numB n),[]):=by
 refine Ga pf79 pb79 ?_
 unfold pb79
 refine Uw Oo ?_
 simp [pf79,numB]

@[simp] theorem t384 (n:Int):Gw TT 384 [vi n] = some (vb (numB n),[]):=by
 refine Ga pf384 pb384 ?_
 unfold pb384
 refine Uw Oo ?_
 simp [pf384,numB]

@[simp] theorem t60 (a x_N:Int) (x_S:ByteArray) (h:x_S.size≤1048576):Gw TT 60 [.st [.ro false (di a),.ro false (di x_N),.ro false (.str x_S)]] = some (vb (valOkF a x_N x_S),[]):=by
 refine Ga pf60 pb60 ?_
 unfold pb60
 by_cases u1:a = 1
 ·refine Uc u1 ?_ ?_
  all_goals repeat intro hc
  all_goals simp_all [pf60,valOkF]
 ·by_cases u2:a = 2
  ·refine Uc (J2 u1 u2) ?_
   repeat intro hc
   refine wp_loopI (σ:=List UInt8 × List UInt8) (fun s => [(1,AV.bx 1 0,some (Rt.bx [.ro false (di a),.ro false (di x_N),.ro false (.str x_S)])),(3,AV.v false (di ((s.1.length:Nat):Int)),none)]) (fun s => x_S.toList = s.1 ++ s.2∧textB s.2 = textB x_S.toList) (fun s => s.2.length) ([],x_S.toList) (by simp [u2]) ⟨rfl,rfl⟩ ?_
   rintro ⟨pre,rest⟩ ⟨h1,h2⟩
   simp only at h1 h2
   have hl:=bl_len x_S
   rw [h1,List.length_append] at hl
   rcases rest with _ | ⟨d,rest⟩
   ·simp only [List.length_nil] at hl
    simp only [textB] at h2
    have hsz:(x_S.size:Int) = (pre.length:Int):=by omega
    unfold pl60_0
    by_cases q1:pre.length≤6
    ·have q2:x_S.size≤6:=by omega
     have q3:(pre.length:Int)≤6:=by omega
     refine Uc (J4 hsz q1 q2 q3) ?_
     repeat intro hc
     by_cases z:x_N = 0 <;> simp_all [pf60,valOkF]
    ·have q2:¬ x_S.size≤6:=by omega
     have q3:¬ (pre.length:Int)≤6:=by omega
     refine Uc (J4 hsz q1 q2 q3) ?_
     repeat intro hc
     simp_all [pf60,valOkF]
   ·simp only [List.length_cons] at hl
    simp only [textB] at h2
    have hg:x_S.toList[pre.length]? = some d:=by rw [h1]; simp
    have hlt:(pre.length:Int) < (x_S.size:Int):=by omega
    have hlt2:pre.length < x_S.size:=by omega
    have hw:=Wi ((pre.length:Int) + 1)
    unfold pl60_0
    by_cases o:okc d = true
    ·rw [if_pos o] at h2
     simp only [okc,decide_eq_true_eq] at o
     refine Uc (J4 hg hlt hlt2 hw) ?_ ?_
     all_goals repeat intro hc
     all_goals exact ⟨(pre ++ [d],rest),by simp,⟨by rw [h1]; simp,h2⟩,by simp⟩
    ·rw [if_neg o] at h2
     have o2:=o
     simp only [okc,decide_eq_true_eq] at o2
     refine Uc (J4 hg hlt hlt2 hw) ?_ ?_ ?_
     all_goals repeat intro hc
     all_goals simp [pf60,valOkF,u1,u2,← h2]
  ·refine Uc (J2 u1 u2) ?_
   repeat intro hc
   simp [pf60,valOkF,u1,u2]

@[simp] theorem t341 (a x_N:Int) (x_S:ByteArray) (h:x_S.size≤1048576):Gw TT 341 [.st [.ro false (di a),.ro false (di x_N),.ro false (.str x_S)]] = some (vb (valOkF a x_N x_S),[]):=by
 refine Ga pf341 pb341 ?_
 unfold pb341
 by_cases u1:a = 1
 ·refine Uc u1 ?_ ?_
  all_goals repeat intro hc
  all_goals simp_all [pf341,valOkF]
 ·refine Uc u1 ?_
  repeat intro hc
  refine wp_loopI (σ:=List UInt8 × List UInt8) (fun s => [(1,AV.bx 1 0,some (Rt.bx [.ro false (di a),.ro false (di x_N),.ro false (.str x_S)])),(3,AV.v false (di ((s.1.length:Nat):Int)),none)]) (fun s => x_S.toList = s.1 ++ s.2∧textB s.2 = textB x_S.toList) (fun s => s.2.length) ([],x_S.toList) (by simp ) ⟨rfl,rfl⟩ ?_
  rintro ⟨pre,rest⟩ ⟨h1,h2⟩
  simp only at h1 h2
  have hl:=bl_len x_S
  rw [h1,List.length_append] at hl
  rcases rest with _ | ⟨d,rest⟩
  ·simp only [List.length_nil] at hl
   simp only [textB] at h2
   have hsz:(x_S.size:Int) = (pre.length:Int):=by omega
   unfold pl341_0
   by_cases q1:pre.length≤6
   ·have q2:x_S.size≤6:=by omega
    have q3:(pre.length:Int)≤6:=by omega
    refine Uc (J4 hsz q1 q2 q3) ?_ ?_ ?_
    all_goals repeat intro hc
    all_goals simp_all [pf341,valOkF]
   ·have q2:¬ x_S.size≤6:=by omega
    have q3:¬ (pre.length:Int)≤6:=by omega
    refine Uc (J4 hsz q1 q2 q3) ?_ ?_ ?_
    all_goals repeat intro hc
    all_goals simp_all [pf341,valOkF]
  ·simp only [List.length_cons] at hl
   simp only [textB] at h2
   have hg:x_S.toList[pre.length]? = some d:=by rw [h1]; simp
   have hlt:(pre.length:Int) < (x_S.size:Int):=by omega
   have hlt2:pre.length < x_S.size:=by omega
   have hw:=Wi ((pre.length:Int) + 1)
   have hwd:IntKind.wrap .i64 (d.toNat:Int) = (d.toNat:Int):=wrap_i64 (by omega) (by have:=d.toNat_lt; omega)
   unfold pl341_0
   by_cases q1:pre.length≤6
   ·have q3:(pre.length:Int)≤6:=by omega
    by_cases o:okc d = true
    ·rw [if_pos o] at h2
     simp only [okc,decide_eq_true_eq] at o
     refine Uc (J7 hg hlt hlt2 hw hwd q1 q3) ?_ ?_
     all_goals repeat intro hc
     all_goals exact ⟨(pre ++ [d],rest),by simp,⟨by rw [h1]; simp,h2⟩,by simp⟩
    ·rw [if_neg o] at h2
     have o2:=o
     simp only [okc,decide_eq_true_eq] at o2
     refine Uc (J7 hg hlt hlt2 hw hwd q1 q3) ?_
     repeat intro hc
     simp [pf341,valOkF,u1,← h2]
   ·have q3:¬ (pre.length:Int)≤6:=by omega
    have q2:¬ x_S.size≤6:=by omega
    have q4:¬ (x_S.size:Int)≤6:=by omega
    refine Uc (J8 hg hlt hlt2 hw hwd q1 q3 q4) ?_ ?_ ?_
    all_goals repeat intro hc
    all_goals simp [pf341,valOkF,u1,q2,q4,q3]

def fitsL:List Int→List XVal→Bool
  | _,[] => true
  | [],_ :: _ => false
  | b :: bs,v :: l => if valOkF v.Ty v.N v.S = true∧v.Ty = b then fitsL bs l else false

def fitsF (cols:List Int) (l:List XVal):Bool:=decide (l.length = cols.length) && fitsL cols l

@[simp] theorem t19 (k0 k1:Bool) (cols:List Int) (l:List XVal) (h:cols.length≤1048576) (h5:l.length≤1048576) (hs:XVal.sms l):Gw TT 19 [.one (.ro k0 (.sl 1 (cols.map ei))),.one (.ro k1 (.sl 3 (l.map XVal.e)))] = some (vb (fitsF cols l),[]):=by
  refine Ga pf19 pb19 ?_
  unfold pb19
  by_cases y0:l.length = cols.length
  · have y1:(l.length:Int) = (cols.length:Int):=by omega
    refine Uw y1 ?_
    repeat intro hc
    refine wp_loopI (σ:=List Int × List Int × List XVal × List XVal) (fun s => [(0,AV.v k0 (D.sl 1 (cols.map ei)),none),(12,AV.v k1 (D.sl 3 (l.map XVal.e)),none),(13,AV.v false (di (l.length:Nat)),none),(14,AV.v false (di ((s.2.2.1.length:Nat):Int)),none)]) (fun s => cols = s.1 ++ s.2.1∧l = s.2.2.1 ++ s.2.2.2∧s.1.length = s.2.2.1.length∧fitsL s.2.1 s.2.2.2 = fitsL cols l) (fun s => s.2.2.2.length) ([],cols,[],l) (by simp [y1]) ⟨rfl,rfl,rfl,rfl⟩ ?_
    rintro ⟨p1,r1,p2,r2⟩ ⟨h1,h2,h3,h4⟩
    simp only at h1 h2 h3 h4
    have y2:cols.length = p1.length + r1.length:=by rw [h1,List.length_append]
    have y3:l.length = p2.length + r2.length:=by rw [h2,List.length_append]
    rcases r2 with _ | ⟨d,r2⟩
    · simp only [List.length_nil] at y3
      simp only [fitsL] at h4
      have y4:¬ (p2.length:Int) < (l.length:Int):=by omega
      unfold pl19_0
      refine Uw y4 ?_
      repeat intro hc
      simp [pf19,fitsF,y0,← h4]
    · rcases r1 with _ | ⟨b,r1⟩
      · simp only [List.length_nil,List.length_cons] at y2 y3; omega
      simp only [List.length_cons] at y2 y3
      have hd:=hs d (by rw [h2]; simp)
      simp only [XVal.sm] at hd
      simp only [fitsL] at h4
      have hg1:cols[p2.length]? = some b:=by rw [h1,← h3]; simp
      have hg2:l[p2.length]? = some d:=by rw [h2]; simp
      obtain ⟨hlt2,he1⟩:=List.getElem?_eq_some_iff.1 hg1
      obtain ⟨hlt,he2⟩:=List.getElem?_eq_some_iff.1 hg2
      have y4:(p2.length:Int) < (l.length:Int):=by omega
      have y5:(p2.length:Int) < (cols.length:Int):=by omega
      have hw:IntKind.wrap .i64 ((p2.length:Int) + 1) = (p2.length:Int) + 1:=wrap_i64 (by omega) (by omega)
      unfold pl19_0
      by_cases o1:valOkF d.Ty d.N d.S = true
      · by_cases o2:d.Ty = b
        · rw [if_pos ⟨o1,o2⟩] at h4
          have o3:valOkF b d.N d.S = true:=o2 ▸ o1
          refine Uw (J8 hg1 hg2 he1 he2 hlt hlt2 y4 (J6 y5 hw hd o1 o2 o3)) ?_
          repeat intro hc
          exact ⟨(p1 ++ [b],r1,p2 ++ [d],r2),by simp,⟨by rw [h1]; simp,by rw [h2]; simp,by simp [h3],h4⟩,by simp⟩
        · rw [if_neg (fun q => o2 q.2)] at h4
          have o4:(d.Ty == b) = false:=by simpa using o2
          have o5:(d.Ty != b) = true:=by simpa using o2
          refine Uw (J8 hg1 hg2 he1 he2 hlt hlt2 y4 (J6 y5 hw hd o1 o4 o5)) ?_
          repeat intro hc
          simp [pf19,fitsF,y0,← h4]
      · rw [if_neg (fun q => o1 q.1)] at h4
        have o3:valOkF d.Ty d.N d.S = false:=by simpa using o1
        refine Uw (J8 hg1 hg2 he1 he2 hlt hlt2 y4 (J4 y5 hw hd o3)) ?_
        repeat intro hc
        simp [pf19,fitsF,y0,← h4]
  · have y1:¬ (l.length:Int) = (cols.length:Int):=by omega
    have y2:¬ (cols.length:Int) = (l.length:Int):=by omega
    repeat' (first
      | with_reducible (first | refine wp_seq ?_ | refine wp_blk ?_ | refine wp_skip ?_ | refine wp_exit ?_ | refine wp_ret ?_ | refine seqQ_norm ?_ | refine seqQ_ret ?_ | refine seqQ_exit ?_ | refine blkQ_norm ?_ | refine blkQ_ret ?_ | refine blkQ_exit ?_ | refine loopQ_norm ?_ | refine loopQ_exit ?_ | refine loopQ_ret ?_ | refine endQ_ret ?_ | refine endQ_norm ?_ | refine endE_ret ?_ | refine endE_norm ?_ | refine endI_ret ?_ | refine endI_norm ?_)
      | (with_reducible refine wp_loop (c:=pl19_0) ?_
         conv => arg 2; unfold pl19_0)
      | (with_reducible refine wp_regK fun K hK => ?_
         simp[y1,y2]
         repeat' (with_reducible first | refine hK _ ?_ | (refine psel ?_ ?_ <;> (intro hc; (try rw [Decidable.not_not] at hc); first | (exfalso; omega) | (try simp [hc,y1,y2]))))
         all_goals (clear hK; clear K))
      | (with_reducible refine wp_condE ?_
         refine ⟨_,rfl,?_,?_⟩ <;> (intro hc; (try simp at hc); (all_goals first | (exfalso; omega) | skip))))
    simp [pf19,fitsF,y0]

@[simp] theorem t298 (k0 k1:Bool) (cols:List Int) (l:List XVal) (h:cols.length≤1048576) (h5:l.length≤1048576) (hs:XVal.sms l):Gw TT 298 [.one (.ro k0 (.sl 1 (cols.map ei))),.one (.ro k1 (.sl 3 (l.map XVal.e)))] = some (vb (fitsF cols l),[]):=by
  refine Ga pf298 pb298 ?_
  unfold pb298
  by_cases y0:l.length = cols.length
  · have y1:(l.length:Int) = (cols.length:Int):=by omega
    refine Uw y1 ?_
    repeat intro hc
    refine wp_loopI (σ:=List Int × List Int × List XVal × List XVal) (fun s => [(0,AV.v k0 (D.sl 1 (cols.map ei)),none),(1,AV.v k1 (D.sl 3 (l.map XVal.e)),none),(5,AV.v false (di ((s.2.2.1.length:Nat):Int)),none)]) (fun s => cols = s.1 ++ s.2.1∧l = s.2.2.1 ++ s.2.2.2∧s.1.length = s.2.2.1.length∧fitsL s.2.1 s.2.2.2 = fitsL cols l) (fun s => s.2.2.2.length) ([],cols,[],l) (by simp [y1]) ⟨rfl,rfl,rfl,rfl⟩ ?_
    rintro ⟨p1,r1,p2,r2⟩ ⟨h1,h2,h3,h4⟩
    simp only at h1 h2 h3 h4
    have y2:cols.length = p1.length + r1.length:=by rw [h1,List.length_append]
    have y3:l.length = p2.length + r2.length:=by rw [h2,List.length_append]
    rcases r2 with _ | ⟨d,r2⟩
    · simp only [List.length_nil] at y3
      simp only [fitsL] at h4
      have y4:¬ (p2.length:Int) < (l.length:Int):=by omega
      unfold pl298_0
      refine Uw y4 ?_
      repeat intro hc
      simp [pf298,fitsF,y0,← h4]
    · rcases r1 with _ | ⟨b,r1⟩
      · simp only [List.length_nil,List.length_cons] at y2 y3; omega
      simp only [List.length_cons] at y2 y3
      have hd:=hs d (by rw [h2]; simp)
      simp only [XVal.sm] at hd
      simp only [fitsL] at h4
      have hg1:cols[p2.length]? = some b:=by rw [h1,← h3]; simp
      have hg2:l[p2.length]? = some d:=by rw [h2]; simp
      obtain ⟨hlt2,he1⟩:=List.getElem?_eq_some_iff.1 hg1
      obtain ⟨hlt,he2⟩:=List.getElem?_eq_some_iff.1 hg2
      have y4:(p2.length:Int) < (l.length:Int):=by omega
      have y5:(p2.length:Int) < (cols.length:Int):=by omega
      have hw:IntKind.wrap .i64 ((p2.length:Int) + 1) = (p2.length:Int) + 1:=wrap_i64 (by omega) (by omega)
      unfold pl298_0
      by_cases o1:valOkF d.Ty d.N d.S = true
      · by_cases o2:d.Ty = b
        · rw [if_pos ⟨o1,o2⟩] at h4
          have o3:valOkF b d.N d.S = true:=o2 ▸ o1
          refine Uw (J8 hg1 hg2 he1 he2 hlt hlt2 y4 (J6 y5 hw hd o1 o2 o3)) ?_
          repeat intro hc
          exact ⟨(p1 ++ [b],r1,p2 ++ [d],r2),by simp,⟨by rw [h1]; simp,by rw [h2]; simp,by simp [h3],h4⟩,by simp⟩
        · rw [if_neg (fun q => o2 q.2)] at h4
          have o4:(d.Ty == b) = false:=by simpa using o2
          have o5:(d.Ty != b) = true:=by simpa using o2
          refine Uw (J8 hg1 hg2 he1 he2 hlt hlt2 y4 (J6 y5 hw hd o1 o4 o5)) ?_
          repeat intro hc
          simp [pf298,fitsF,y0,← h4]
      · rw [if_neg (fun q => o1 q.1)] at h4
        have o3:valOkF d.Ty d.N d.S = false:=by simpa using o1
        refine Uw (J8 hg1 hg2 he1 he2 hlt hlt2 y4 (J4 y5 hw hd o3)) ?_
        repeat intro hc
        simp [pf298,fitsF,y0,← h4]
  · have y1:¬ (l.length:Int) = (cols.length:Int):=by omega
    have y2:¬ (cols.length:Int) = (l.length:Int):=by omega
    repeat' (first
      | with_reducible (first | refine wp_seq ?_ | refine wp_blk ?_ | refine wp_skip ?_ | refine wp_exit ?_ | refine wp_ret ?_ | refine seqQ_norm ?_ | refine seqQ_ret ?_ | refine seqQ_exit ?_ | refine blkQ_norm ?_ | refine blkQ_ret ?_ | refine blkQ_exit ?_ | refine loopQ_norm ?_ | refine loopQ_exit ?_ | refine loopQ_ret ?_ | refine endQ_ret ?_ | refine endQ_norm ?_ | refine endE_ret ?_ | refine endE_norm ?_ | refine endI_ret ?_ | refine endI_norm ?_)
      | (with_reducible refine wp_loop (c:=pl298_0) ?_
         conv => arg 2; unfold pl298_0)
      | (with_reducible refine wp_regK fun K hK => ?_
         simp[y1,y2]
         repeat' (with_reducible first | refine hK _ ?_ | (refine psel ?_ ?_ <;> (intro hc; (try rw [Decidable.not_not] at hc); first | (exfalso; omega) | (try simp [hc,y1,y2]))))
         all_goals (clear hK; clear K))
      | (with_reducible refine wp_condE ?_
         refine ⟨_,rfl,?_,?_⟩ <;> (intro hc; (try simp at hc); (all_goals first | (exfalso; omega) | skip))))
    simp [pf298,fitsF,y0]

/-- By key,then by number. -/
def slt (ky:Int→Int) (x y:Int):Prop:=ky x < ky y ∨ (ky x = ky y∧x < y)
def Srt (ky:Int→Int) (l:List Int):Prop:=l.Pairwise (slt ky)

theorem slt.trans {ky:Int→Int} {x y z:Int} (h1:slt ky x y) (h2:slt ky y z):slt ky x z:=by unfold slt at *; omega
theorem slt.irrefl {ky:Int→Int} {x:Int}:¬ slt ky x x:=by unfold slt; omega
theorem slt.asymm {ky:Int→Int} {x y:Int} (h:slt ky x y):¬ slt ky y x:=by unfold slt at *; omega
theorem slt.le {ky:Int→Int} {x y:Int} (h:slt ky x y):ky x≤ky y:=by unfold slt at h; omega
theorem slt_of_lt {ky:Int→Int} {x y:Int} (h:ky x < ky y):slt ky x y:=.inl h
theorem slt_of_le {ky:Int→Int} {x y:Int} (h:ky x≤ky y) (h2:x < y):slt ky x y:=by unfold slt; omega

/-- Blocks of the list,each sorted for itself. -/
inductive Good (ky:Int→Int) (bs:Nat):List Int→List Int→Prop
 | short (xs l:List Int):xs.length≤bs→l.Perm xs→Srt ky l→Good ky bs xs l
 | app (w w' xs l:List Int):w.length = bs→w'.Perm w→Srt ky w'→Good ky bs xs l→Good ky bs (w ++ xs) (w' ++ l)

theorem Good.perm {ky:Int→Int} {bs:Nat} {xs l:List Int} (h:Good ky bs xs l):l.Perm xs:=by
 induction h with
 | short _ _ _ h => exact h
 | app _ _ _ _ _ h _ _ ih => exact h.append ih

theorem Good.le {ky:Int→Int} {bs:Nat} {xs l:List Int} (h:Good ky bs xs l) (hb:xs.length≤bs) (h0:0 < bs):l.Perm xs∧Srt ky l:=by
 cases h with
 | short _ _ h1 h2 h3 => exact ⟨h2,h3⟩
 | app w w' xs l h1 h2 h3 h4 =>
  have h5:xs = []:=List.eq_nil_of_length_eq_zero (by simp at hb; omega)
  subst h5
  have h6:l = []:=List.perm_nil.1 h4.perm
  subst h6
  simpa using ⟨h2,h3⟩

@[simp] theorem t400 (k0:Bool) (a:Int) (x_L:List XVal) (h:x_L.length≤1048576):Gw TT 400 [.st [.ro false (di a),.ro k0 (.sl 3 (x_L.map XVal.e))]] = some (.st [.ro false (di a),.own (.sl 3 (x_L.map XVal.e))],[]):=by
 refine Ga pf400 pb400 ?_
 unfold pb400
 have hq1:(0 + x_L.length) * 32≤70368744177664:=by omega
 have hq2:x_L.length * 32≤70368744177664:=by omega
 refine Ud (J2 hq1 hq2) ?_
 all_goals simp [pf400]

/-- A number below 2^35 in bytes of seven bits,the lowest first. -/
def vbN (x:Nat):List Int:=if h:x < 128 then [(x:Int)] else ((x % 128 + 128:Nat):Int) :: vbN (x / 128)
termination_by x
decreasing_by omega

/-- What is read: the number and how many bytes it took. -/
def rawN:Bool→Nat→List Int→Option (Nat × Nat)
 | _,0,_ => none
 | _,_ + 1,[] => none
 | fst,f + 1,c :: r =>
  if 128≤c then match rawN false f r with
   | some (y,k) => some ((c % 128).toNat + 128 * y,k + 1)
   | none => none
  else if fst = false∧c = 0 then none else some (c.toNat,1)

def bytesOk (l:List Int):Prop:=∀ c ∈ l,0≤c∧c≤255

theorem vbN_small {x:Nat} (h:x < 128):vbN x = [(x:Int)]:=by rw [vbN]; simp [h]
theorem vbN_big {x:Nat} (h:¬ x < 128):vbN x = ((x % 128 + 128:Nat):Int) :: vbN (x / 128):=by rw [vbN]; simp [h]

theorem vbN_ok:∀ x:Nat,bytesOk (vbN x):=by
 intro x
 induction x using Nat.strongRecOn with
 | _ x ih =>
  by_cases h:x < 128
  ·rw [vbN_small h]; intro c hc; simp at hc; omega
  ·rw [vbN_big h]
   intro c hc
   rcases List.mem_cons.1 hc with rfl | hc
   ·omega
   ·exact ih (x / 128) (by omega) c hc

theorem vbN_pos (x:Nat):1≤(vbN x).length:=by
 by_cases h:x < 128
 ·rw [vbN_small h]; simp
 ·rw [vbN_big h]; simp

theorem vbN_len:∀ (n x:Nat),x < 128 ^ n→0 < n→(vbN x).length≤n:=by
 intro n
 induction n with
 | zero => intro x _ h; omega
 | succ n ih =>
  intro x h _
  by_cases hx:x < 128
  ·rw [vbN_small hx]; simp
  ·rw [vbN_big hx]
   have hn:0 < n:=by
    rcases Nat.eq_zero_or_pos n with h0 | h0
    ·subst h0; simp at h; omega
    ·exact h0
   have:=ih (x / 128) (by rw [Nat.pow_succ] at h; omega) hn
   simp only [List.length_cons]; omega

theorem rawN_pos {f:Nat}:∀ {l:List Int} {y k:Nat},bytesOk l→rawN false f l = some (y,k)→0 < y:=by
 induction f with
 | zero => intro l y k _ h; simp [rawN] at h
 | succ f ih =>
  intro l y k hl h
  cases l with
  | nil => simp [rawN] at h
  | cons c r =>
   simp only [rawN] at h
   split at h
   ·split at h
    ·rename_i y' k' h1
     simp at h
     have:=ih (fun c hc => hl c (by simp [hc])) h1
     omega
    ·cases h
   ·rename_i hc
    have hc0:=hl c (by simp)
    split at h
    ·cases h
    ·rename_i h2
     simp at h
     simp at h2
     omega

/-- What is read is how the number is written. -/
theorem rawN_can:∀ {f:Nat} {l:List Int} {fst:Bool} {y k:Nat},bytesOk l→rawN fst f l = some (y,k)→∃ r,l = vbN y ++ r∧(vbN y).length = k:=by
 intro f
 induction f with
 | zero => intro l fst y k _ h; simp [rawN] at h
 | succ f ih =>
  intro l fst y k hl h
  cases l with
  | nil => simp [rawN] at h
  | cons c r =>
   have hc0:=hl c (by simp)
   simp only [rawN] at h
   split at h
   ·rename_i hc
    split at h
    ·rename_i y' k' h1
     simp at h
     obtain ⟨rfl,rfl⟩:=h
     have hr:bytesOk r:=fun c hc => hl c (by simp [hc])
     have hp:=rawN_pos hr h1
     obtain ⟨r',h2,h3⟩:=ih hr h1
     have hb:¬ ((c % 128).toNat + 128 * y' < 128):=by omega
     rw [vbN_big hb,show ((c % 128).toNat + 128 * y') / 128 = y' by omega]
     refine ⟨r',?_,by simp [h3]⟩
     rw [h2,List.cons_append]
     congr 1
     omega
    ·cases h
   ·split at h
    ·cases h
    ·simp at h
     obtain ⟨rfl,rfl⟩:=h
     rw [vbN_small (by omega)]
     exact ⟨r,by simp; omega,rfl⟩

/-- What is written is read. -/
theorem rawN_vbN:∀ (f y:Nat) (fst:Bool) (r:List Int),y < 128 ^ f→(fst = false→0 < y)→rawN fst f (vbN y ++ r) = if f = 0 then none else some (y,(vbN y).length):=by
 intro f
 induction f with
 | zero => intro y fst r _ _; simp [rawN]
 | succ f ih =>
  intro y fst r h hf
  by_cases hy:y < 128
  ·rw [vbN_small hy]
   simp only [List.cons_append,List.nil_append,rawN]
   rw [if_neg (by omega),if_neg (fun e => by have:=hf e.1; omega)]
   simp
  ·rw [vbN_big hy]
   simp only [List.cons_append,rawN]
   rw [if_pos (by omega),ih (y / 128) false r (by rw [Nat.pow_succ] at h; omega) (fun _ => by omega)]
   have hf0:f ≠ 0:=fun e => by subst e; simp at h; omega
   simp only [if_neg hf0,List.length_cons,Nat.add_eq_zero_iff,if_neg (show ¬ (f = 0∧(1:Nat) = 0) by omega)]
   simp only [Option.some.injEq,Prod.mk.injEq,and_true,reduceCtorEq]
   simp
   omega

def zigF (n:Int):Int:=if -1000000000≤n∧n≤1000000000 then (if n < 0 then -2 * n - 1 else 2 * n) else 0
def zagF (n:Int):Int:=if 0≤n∧n≤2000000000 then (if n.tmod 2 = 1 then (-(n + 1)).tdiv 2 else n.tdiv 2) else 0

theorem zagF_even {x:Int} (h:0≤x∧x≤2000000000) (h2:x % 2 = 0):zagF x = x / 2:=by
 unfold zagF
 rw [if_pos h,Int.tmod_eq_emod_of_nonneg h.1,if_neg (by omega),Int.tdiv_eq_ediv_of_nonneg h.1]
theorem zagF_odd {x:Int} (h:0≤x∧x≤2000000000) (h2:x % 2 = 1):zagF x = -((x + 1) / 2):=by
 unfold zagF
 rw [if_pos h,Int.tmod_eq_emod_of_nonneg h.1,if_pos h2,Int.neg_tdiv,Int.tdiv_eq_ediv_of_nonneg (by omega)]

theorem zag_zig {n:Int} (h:-1000000000≤n∧n≤1000000000):zagF (zigF n) = n∧0≤zigF n∧zigF n≤2000000000:=by
 unfold zigF
 rw [if_pos h]
 by_cases h0:n < 0
 ·rw [if_pos h0,zagF_odd (by omega) (by omega)]; omega
 ·rw [if_neg h0,zagF_even (by omega) (by omega)]; omega

theorem zig_zag {x:Int} (h:0≤x∧x≤2000000000):zigF (zagF x) = x∧-1000000000≤zagF x∧zagF x≤1000000000:=by
 rcases (by omega:x % 2 = 0 ∨ x % 2 = 1) with h0 | h0
 ·rw [zagF_even h h0]
  unfold zigF
  rw [if_pos (by omega),if_neg (by omega)]; omega
 ·rw [zagF_odd h h0]
  unfold zigF
  rw [if_pos (by omega),if_pos (by omega)]; omega

/-- A number's bytes. -/
def encN (n:Int):List Int:=if -1000000000≤n∧n≤1000000000 then vbN (zigF n).toNat else []
/-- A number read at the head. -/
def getN (l:List Int):Option (Int × Nat):=match rawN true 5 l with
 | some (y,k) => if y≤2000000000 then some (zagF y,k) else none
 | none => none

theorem encN_ok (n:Int):bytesOk (encN n):=by
 unfold encN; split
 ·exact vbN_ok _
 ·intro c hc; simp at hc

theorem encN_len (n:Int):(encN n).length≤5:=by
 unfold encN; split
 ·rename_i h
  have:=zag_zig h
  exact vbN_len 5 _ (by omega) (by omega)
 ·simp

theorem getN_can {l:List Int} {n:Int} {k:Nat} (hl:bytesOk l) (h:getN l = some (n,k)):(-1000000000≤n∧n≤1000000000)∧∃ r,l = encN n ++ r∧(encN n).length = k:=by
 unfold getN at h
 split at h
 ·rename_i y k' h1
  split at h
  ·rename_i hy
   simp at h
   obtain ⟨rfl,rfl⟩:=h
   have hz:=zig_zag (x:=(y:Int)) (by omega)
   obtain ⟨r,h2,h3⟩:=rawN_can hl h1
   refine ⟨hz.2,r,?_⟩
   unfold encN
   rw [if_pos hz.2,hz.1]
   simpa using ⟨h2,h3⟩
  ·cases h
 ·cases h

theorem getN_enc {n:Int} (h:-1000000000≤n∧n≤1000000000) (r:List Int):getN (encN n ++ r) = some (n,(encN n).length):=by
 have hz:=zag_zig h
 unfold getN encN
 rw [if_pos h,rawN_vbN 5 _ true r (by omega) (by simp)]
 simp only [if_neg (show ¬ (5:Nat) = 0 by omega)]
 rw [if_pos (by omega)]
 simp only [Option.some.injEq,Prod.mk.injEq,and_true]
 rw [Int.toNat_of_nonneg hz.2.1]; exact hz.1

@[simp] theorem t562 (n:Int):Gw TT 562 [vi n] = some (vi (zigF n),[]):=by
 refine Ga pf562 pb562 ?_
 unfold pb562
 by_cases q1:numB n = true
 ·have q2:=q1
  simp only [numB,Bool.and_eq_true,decide_eq_true_eq] at q2
  have w1:=Wi (-2 * n)
  have w2:=Wi (-2 * n - 1)
  have w3:=Wi (2 * n)
  refine Uw (J4 q1 w1 w2 w3) ?_ ?_
  all_goals repeat intro hc
  all_goals first | (simp [pf562,zigF,q2, *]; done) | (simp [pf562,zigF]; omega)
 ·have q2:=q1
  simp only [numB,Bool.and_eq_true,decide_eq_true_eq] at q2
  simp only [Bool.not_eq_true] at q1
  refine Uw q1 ?_
  repeat intro hc
  simp [pf562,zigF,q2]

@[simp] theorem t590 (n:Int):Gw TT 590 [vi n] = some (vi (zigF n),[]):=by
 refine Ga pf590 pb590 ?_
 unfold pb590
 by_cases q1:numB n = true
 ·have q2:=q1
  simp only [numB,Bool.and_eq_true,decide_eq_true_eq] at q2
  have w1:=Wi (-2 * n)
  have w2:=Wi (-2 * n - 1)
  have w3:=Wi (2 * n)
  refine Uw (J4 q1 w1 w2 w3) ?_ ?_
  all_goals repeat intro hc
  all_goals first | (simp [pf590,zigF,q2, *]; done) | (simp [pf590,zigF]; omega)
 ·have q2:=q1
  simp only [numB,Bool.and_eq_true,decide_eq_true_eq] at q2
  simp only [Bool.not_eq_true] at q1
  refine Uw q1 ?_
  repeat intro hc
  simp [pf590,zigF,q2]

@[simp] theorem t521 (n:Int):Gw TT 521 [vi n] = some (vi (zagF n),[]):=by
 refine Ga pf521 pb521 ?_
 unfold pb521
 by_cases q2:0≤n∧n≤2000000000
 ·have w1:=Wi (n + 1)
  have w2:=Wi (-(n + 1))
  have w4:IntKind.wrap .i64 (0 - (n + 1)) = -(n + 1):=by rw [show (0 - (n + 1):Int) = -(n + 1) by omega]; exact w2
  have w5:IntKind.wrap .i64 (n.tdiv 2) = n.tdiv 2:=by rw [Int.tdiv_eq_ediv_of_nonneg q2.1]; exact wrap_i64 (by omega) (by omega)
  have w6:IntKind.wrap .i64 ((-(n + 1)).tdiv 2) = (-(n + 1)).tdiv 2:=by rw [Int.neg_tdiv,Int.tdiv_eq_ediv_of_nonneg (by omega)]; exact wrap_i64 (by omega) (by omega)
  refine Uw (J7 q2.1 q2.2 w1 w2 w4 w5 w6) ?_ ?_
  all_goals repeat intro hc
  all_goals first | (simp [pf521,zagF,q2, *]; done) | (simp_all [pf521,zagF]; done)
 ·refine Uw Oo ?_
  repeat intro hc
  simp [pf521,zagF,q2]

@[simp] theorem t513 (n:Int):Gw TT 513 [vi n] = some (vi (zagF n),[]):=by
 refine Ga pf513 pb513 ?_
 unfold pb513
 by_cases q2:0≤n∧n≤2000000000
 ·have w1:=Wi (n + 1)
  have w2:=Wi (-(n + 1))
  have w4:IntKind.wrap .i64 (0 - (n + 1)) = -(n + 1):=by rw [show (0 - (n + 1):Int) = -(n + 1) by omega]; exact w2
  have w5:IntKind.wrap .i64 (n.tdiv 2) = n.tdiv 2:=by rw [Int.tdiv_eq_ediv_of_nonneg q2.1]; exact wrap_i64 (by omega) (by omega)
  have w6:IntKind.wrap .i64 ((-(n + 1)).tdiv 2) = (-(n + 1)).tdiv 2:=by rw [Int.neg_tdiv,Int.tdiv_eq_ediv_of_nonneg (by omega)]; exact wrap_i64 (by omega) (by omega)
  refine Uw (J7 q2.1 q2.2 w1 w2 w4 w5 w6) ?_ ?_
  all_goals repeat intro hc
  all_goals first | (simp [pf513,zagF,q2, *]; done) | (simp_all [pf513,zagF]; done)
 ·refine Uw Oo ?_
  repeat intro hc
  simp [pf513,zagF,q2]

theorem byte_rem' (x:Nat):IntKind.wrap .i64 (((x:Int).tmod 128) + 128) = ((x % 128 + 128:Nat):Int):=by
 rw [Int.tmod_eq_emod_of_nonneg (by omega),wrap_i64 (by omega) (by omega)]; omega

@[simp] theorem t531 (k0:Bool) (b:List Int) (n:Int) (h:b.length≤1048576):Gw TT 531 [.one (.ro k0 (.sl 1 (b.map eb))),vi n] = some (.one (.own (.sl 1 ((b ++ encN n).map eb))),[]):=by
 refine Ga pf531 pb531 ?_
 unfold pb531
 have hq0:(0 + b.length) * 1≤70368744177664:=by omega
 have hq1:b.length≤70368744177664:=by omega
 by_cases q1:numB n = true
 ·have q2:=q1
  simp only [numB,Bool.and_eq_true,decide_eq_true_eq] at q2
  obtain ⟨z1,z2,z3⟩:=zag_zig q2
  obtain ⟨z,hz⟩:=Int.eq_ofNat_of_zero_le z2
  have hen:encN n = vbN z:=by simp [encN,q2,hz]
  have hlen:=encN_len n
  refine Ua (J5 q1 h hq0 hq1 hz) ?_
  refine wp_loopI (σ:=List Int × Nat) (fun s => [(5,AV.pl 5 0 [],some (Rt.vir [C.own (D.sl 1 ((s.1).map eb))])),(6,AV.v false (di (s.2:Nat)),none)]) (fun s => s.1 ++ vbN s.2 = b ++ encN n∧s.2≤z) (fun s => s.2) (b,z) (by simp) ⟨by rw [hen],Nat.le_refl _⟩ ?_
  rintro ⟨a,x⟩ ⟨y1,y2⟩
  simp only at y1 y2
  have hal:=congrArg List.length y1
  simp only [List.length_append] at hal
  have hp:=vbN_pos x
  have hr1:(a.length + 1) * 1≤70368744177664:=by omega
  have hr2:a.length + 1≤70368744177664:=by omega
  by_cases c1:x < 128
  ·have c2:¬ (128:Int)≤x:=by omega
   have c3:¬ (127:Int) < x:=by omega
   have hu:IntKind.wrap .u8 (x:Int) = x:=wrap_u8 (by omega) (by omega)
   rw [vbN_small c1] at y1
   unfold pl531_0
   refine Ua (J5 c2 c3 hu hr1 hr2) ?_
   simp [pf531,← y1]
  ·have c2:(128:Int)≤x:=by omega
   have c3:(127:Int) < x:=by omega
   have hu:IntKind.wrap .u8 ((x % 128 + 128:Nat):Int) = ((x % 128 + 128:Nat):Int):=wrap_u8 (by omega) (by omega)
   have hv:IntKind.wrap .i64 ((x:Int).tdiv 128) = ((x / 128:Nat):Int):=by rw [Int.tdiv_eq_ediv_of_nonneg (by omega),wrap_i64 (by omega) (by omega)]; omega
   have hw:IntKind.wrap .i64 (128 + (x:Int).tmod 128) = ((x % 128 + 128:Nat):Int):=by rw [Int.add_comm]; exact byte_rem' x
   rw [vbN_big c1] at y1
   have hlt:x / 128 < x:=by omega
   have hu2:IntKind.wrap .u8 ((x:Int) % 128 + 128) = (x:Int) % 128 + 128:=wrap_u8 (by omega) (by omega)
   have hv2:=Wi ((x:Int) / 128)
   unfold pl531_0
   refine Ua (J8 c2 c3 @byte_rem' hw hu hv hr1 hr2) ?_
   exact ⟨(a ++ [((x % 128 + 128:Nat):Int)],x / 128),by simp [hu2,hv2],⟨by rw [List.append_assoc]; exact y1,by omega⟩,hlt⟩
 ·have q2:=q1
  simp only [numB,Bool.and_eq_true,decide_eq_true_eq] at q2
  simp only [Bool.not_eq_true] at q1
  refine Ua (J4 q1 h hq0 hq1) ?_
  simp [pf531,encN,q2]

@[simp] theorem t566 (k0:Bool) (b:List Int) (n:Int) (h:b.length≤1048576):Gw TT 566 [.one (.ro k0 (.sl 1 (b.map eb))),vi n] = some (.one (.own (.sl 1 ((b ++ encN n).map eb))),[]):=by
 refine Ga pf566 pb566 ?_
 unfold pb566
 have hq0:(0 + b.length) * 1≤70368744177664:=by omega
 have hq1:b.length≤70368744177664:=by omega
 by_cases q1:numB n = true
 ·have q2:=q1
  simp only [numB,Bool.and_eq_true,decide_eq_true_eq] at q2
  obtain ⟨z1,z2,z3⟩:=zag_zig q2
  obtain ⟨z,hz⟩:=Int.eq_ofNat_of_zero_le z2
  have hen:encN n = vbN z:=by simp [encN,q2,hz]
  have hlen:=encN_len n
  refine Ua (J5 q1 h hq0 hq1 hz) ?_
  refine wp_loopI (σ:=List Int × Nat) (fun s => [(5,AV.pl 5 0 [],some (Rt.vir [C.own (D.sl 1 ((s.1).map eb))])),(6,AV.v false (di (s.2:Nat)),none)]) (fun s => s.1 ++ vbN s.2 = b ++ encN n∧s.2≤z) (fun s => s.2) (b,z) (by simp) ⟨by rw [hen],Nat.le_refl _⟩ ?_
  rintro ⟨a,x⟩ ⟨y1,y2⟩
  simp only at y1 y2
  have hal:=congrArg List.length y1
  simp only [List.length_append] at hal
  have hp:=vbN_pos x
  have hr1:(a.length + 1) * 1≤70368744177664:=by omega
  have hr2:a.length + 1≤70368744177664:=by omega
  by_cases c1:x < 128
  ·have c2:¬ (128:Int)≤x:=by omega
   have c3:¬ (127:Int) < x:=by omega
   have hu:IntKind.wrap .u8 (x:Int) = x:=wrap_u8 (by omega) (by omega)
   rw [vbN_small c1] at y1
   unfold pl566_0
   refine Ua (J5 c2 c3 hu hr1 hr2) ?_
   simp [pf566,← y1]
  ·have c2:(128:Int)≤x:=by omega
   have c3:(127:Int) < x:=by omega
   have hu:IntKind.wrap .u8 ((x % 128 + 128:Nat):Int) = ((x % 128 + 128:Nat):Int):=wrap_u8 (by omega) (by omega)
   have hv:IntKind.wrap .i64 ((x:Int).tdiv 128) = ((x / 128:Nat):Int):=by rw [Int.tdiv_eq_ediv_of_nonneg (by omega),wrap_i64 (by omega) (by omega)]; omega
   have hw:IntKind.wrap .i64 (128 + (x:Int).tmod 128) = ((x % 128 + 128:Nat):Int):=by rw [Int.add_comm]; exact byte_rem' x
   rw [vbN_big c1] at y1
   have hlt:x / 128 < x:=by omega
   have hu2:IntKind.wrap .u8 ((x:Int) % 128 + 128) = (x:Int) % 128 + 128:=wrap_u8 (by omega) (by omega)
   have hv2:=Wi ((x:Int) / 128)
   unfold pl566_0
   refine Ua (J8 c2 c3 @byte_rem' hw hu hv hr1 hr2) ?_
   exact ⟨(a ++ [((x % 128 + 128:Nat):Int)],x / 128),by simp [hu2,hv2],⟨by rw [List.append_assoc]; exact y1,by omega⟩,hlt⟩
 ·have q2:=q1
  simp only [numB,Bool.and_eq_true,decide_eq_true_eq] at q2
  simp only [Bool.not_eq_true] at q1
  refine Ua (J4 q1 h hq0 hq1) ?_
  simp [pf566,encN,q2]

def gN (b:List Int) (u:Int):Option (Int × Int):=if 0≤u∧u < (b.length:Int) then (match getN (b.drop u.toNat) with
  | some (n,k) => some (n,u + (k:Int))
  | none => none) else none

def gV (r:Option (Int × Int)):V:=match r with
  | some (n,t) => .tup [vi n,vi t,vb true]
  | none => .tup [vi 0,vi 0,vb false]
@[simp] theorem gV_some (n t:Int):gV (some (n,t)) = .tup [vi n,vi t,vb true]:=rfl
@[simp] theorem gV_none:gV none = .tup [vi 0,vi 0,vb false]:=rfl

/-- How the sum goes on. -/
def rawR (i x:Nat) (r:Option (Nat × Nat)):Option (Nat × Nat):=match r with
  | some (y,k) => some (x + 128 ^ i * y,i + k)
  | none => none

def fin5 (r:Option (Nat × Nat)):Option (Int × Nat):=match r with
  | some (y,k) => if y≤2000000000 then some (zagF y,k) else none
  | none => none
theorem getN_fin (l:List Int):getN l = fin5 (rawN true 5 l):=by
  unfold getN fin5; rfl

@[simp] theorem t495 (k0:Bool) (b:List Int) (u:Int) (h:b.length≤1048576) (hb:bytesOk b):Gw TT 495 [.one (.ro k0 (.sl 1 (b.map eb))),vi u] = some (gV (gN b u),[]):=by
  refine Ga pf495 pb495 ?_
  unfold pb495
  by_cases q1:0≤u∧u < (b.length:Int)
  · obtain ⟨m,rfl⟩:=Int.eq_ofNat_of_zero_le q1.1
    have q3:m < b.length:=by omega
    have q4:(m:Int)≤(b.length:Int):=by omega
    have q5:¬ (b.length:Int)≤(m:Int):=by omega
    refine Ud (J3 q3 q4 q5) ?_
    repeat intro hc
    refine wp_loopI (σ:=Nat × Nat) (fun s => [(0,AV.v k0 (D.sl 1 (b.map eb)),none),(1,AV.v false (di (m:Nat)),none),(7,AV.v false (di (s.2:Nat)),none),(8,AV.v false (di (s.1:Nat)),none)]) (fun s => s.1≤5∧s.2 < 128 ^ s.1∧rawN true 5 (b.drop m) = rawR s.1 s.2 (rawN (s.1 == 0) (5 - s.1) (b.drop (m + s.1)))) (fun s => 5 - s.1) (0,0) (by simp) ⟨by omega,by simp,by simp [rawR]; cases rawN true 5 (b.drop m) <;> simp⟩ ?_
    rintro ⟨i,x⟩ ⟨y1,y2,y3⟩
    simp only at y1 y2 y3
    have hgn:gN b (m:Int) = (match fin5 (rawN true 5 (b.drop m)) with | some (n,k) => some (n,(m:Int) + (k:Int)) | none => none):=by
      simp [gN,q3,getN_fin]
    by_cases e5:i = 5
    · subst e5
      have hnn:rawN true 5 (b.drop m) = none:=by rw [y3]; simp [rawN,rawR]
      have hgn2:gN b (m:Int) = none:=by rw [hgn,hnn]; try rfl
      unfold pl495_0
      refine Ud hgn2 ?_
      simp [pf495,hgn2]
    · cases hr:b.drop (m + i) with
      | nil =>
        have hll:=congrArg List.length hr
        simp only [List.length_drop,List.length_nil] at hll
        have hnn:rawN true 5 (b.drop m) = none:=by
          rw [y3,hr]
          have:5 - i = (4 - i) + 1:=by omega
          rw [this]; simp [rawN,rawR]
        have hgn2:gN b (m:Int) = none:=by rw [hgn,hnn]; try rfl
        have w1:IntKind.wrap .i64 ((m:Int) + (i:Int)) = (m:Int) + (i:Int):=wrap_i64 (by omega) (by omega)
        have w2:IntKind.wrap .i64 ((b.length:Int) - (m:Int)) = (b.length:Int) - (m:Int):=wrap_i64 (by omega) (by omega)
        have c1:¬ (m:Int) + (i:Int) < (b.length:Int):=by omega
        have c2:¬ (i:Int) < (b.length:Int) - (m:Int):=by omega
        unfold pl495_0
        refine Ud (J5 hgn2 w1 w2 c1 c2) ?_
        repeat intro hc
        simp [pf495,hgn2]
      | cons c r =>
        have hll:=congrArg List.length hr
        simp only [List.length_drop,List.length_cons] at hll
        have hmi:m + i < b.length:=by omega
        have hgc:b[m + i]? = some c:=by
          have:=congrArg (fun l => l[0]?) hr
          simpa using this
        have hce:b[m + i] = c:=(List.getElem?_eq_some_iff.1 hgc).2
        have hc0:=hb c (List.mem_of_getElem? hgc)
        obtain ⟨cn,rfl⟩:=Int.eq_ofNat_of_zero_le hc0.1
        have hdr:b.drop (m + (i + 1)) = r:=by
          rw [← Nat.add_assoc,← List.drop_drop,hr]; simp
        have hnx:rawN (i == 0) (5 - i) (b.drop (m + i)) = rawN (i == 0) ((4 - i) + 1) ((cn:Int) :: r):=by rw [hr,show 5 - i = (4 - i) + 1 by omega]
        have w1:IntKind.wrap .i64 ((m:Int) + (i:Int)) = (m:Int) + (i:Int):=wrap_i64 (by omega) (by omega)
        have w2:IntKind.wrap .i64 ((b.length:Int) - (m:Int)) = (b.length:Int) - (m:Int):=wrap_i64 (by omega) (by omega)
        have w3:IntKind.wrap .i64 ((m:Int) + (i:Int) + 1) = (m:Int) + (i:Int) + 1:=wrap_i64 (by omega) (by omega)
        have w4:IntKind.wrap .i64 (cn:Int) = (cn:Int):=wrap_i64 (by omega) (by omega)
        have w5:IntKind.wrap .i64 ((i:Int) + 1) = (i:Int) + 1:=wrap_i64 (by omega) (by omega)
        have c1:(m:Int) + (i:Int) < (b.length:Int):=by omega
        have c2:(i:Int) < (b.length:Int) - (m:Int):=by omega
        have c3:(i:Int) < 5:=by omega
        have c4:((m:Int) + (i:Int)).toNat = m + i:=by omega
        have c5:(0:Int)≤(m:Int) + (i:Int):=by omega
        have hpw:(128:Nat) ^ i = 2 ^ (7 * i):=by rw [Nat.pow_mul]
        have hpi:(2:Nat) ^ (7 * i)≤2 ^ 28:=Nat.pow_le_pow_right (by omega) (by omega)
        have hpi1:1≤(2:Nat) ^ (7 * i):=Nat.pos_of_ne_zero (by simp)
        obtain ⟨t,ht⟩:∃ t:Nat,t = cn % 128 * 2 ^ (7 * i):=⟨_,rfl⟩
        have htl:t≤127 * 2 ^ 28:=by rw [ht]; exact Nat.mul_le_mul (by omega) hpi
        have x7:IntKind.wrap .i64 (7 * (i:Int)) = 7 * (i:Int):=wrap_i64 (by omega) (by omega)
        have x0:¬ (7 * (i:Int) < 0):=by omega
        have x1:(7 * (i:Int)).toNat = 7 * i:=by omega
        have x2:min (7 * i) IntKind.i64.bits = 7 * i:=by simp [IntKind.bits]; omega
        have xt:(cn:Int).tmod 128 * 2 ^ (7 * i) = (t:Int):=by rw [Int.tmod_eq_emod_of_nonneg (by omega),ht]; simp
        have x3:IntKind.wrap .i64 ((cn:Int).tmod 128 * 2 ^ (7 * i)) = (t:Int):=by rw [xt]; exact wrap_i64 (by omega) (by omega)
        have x4:IntKind.wrap .i64 ((x:Int) + (t:Int)) = (x:Int) + (t:Int):=wrap_i64 (by omega) (by omega)
        have x6:(2:Nat) ^ (7 * (i + 1)) = 128 * 2 ^ (7 * i):=by rw [show 7 * (i + 1) = 7 * i + 7 by omega,Nat.pow_add]; omega
        have hst:x + t < 128 ^ (i + 1):=by
          have h1:t≤127 * 2 ^ (7 * i):=by rw [ht]; exact Nat.mul_le_mul (by omega) (Nat.le_refl _)
          rw [Nat.pow_succ,hpw]; rw [hpw] at y2; omega
        by_cases c6:128≤cn
        · have c7:(128:Int)≤(cn:Int):=by omega
          have c8:(127:Int) < (cn:Int):=by omega
          have hnext:rawN true 5 (b.drop m) = rawR (i + 1) (x + t) (rawN (i + 1 == 0) (5 - (i + 1)) (b.drop (m + (i + 1)))):=by
            rw [y3,hnx,hdr,show 5 - (i + 1) = 4 - i by omega]
            simp only [rawN]
            rw [if_pos c7,show (i + 1 == 0) = false from by simp]
            cases rawN false (4 - i) r with
            | none => rfl
            | some yk =>
              obtain ⟨y,k⟩:=yk
              simp only [rawR,Option.some.injEq,Prod.mk.injEq]
              refine ⟨?_,by omega⟩
              rw [show ((cn:Int) % 128).toNat = cn % 128 by omega,ht,hpw,Nat.pow_succ,Nat.mul_add,hpw,Nat.mul_comm (2 ^ (7 * i)) (cn % 128),Nat.mul_assoc,Nat.add_assoc]
          unfold pl495_0
          refine Ud (J8 hgc hce hmi w1 w2 w3 w4 (J8 w5 c1 c2 c3 c4 c5 x7 (J7 x0 x1 x2 x3 x4 c7 c8))) ?_
          exact ⟨(i + 1,x + t),by simp,⟨by omega,hst,hnext⟩,by simp only; omega⟩
        · have c7:¬ (128:Int)≤(cn:Int):=by omega
          have c8:¬ (127:Int) < (cn:Int):=by omega
          have ht2:t = 128 ^ i * cn:=by rw [ht,hpw,Nat.mod_eq_of_lt (by omega),Nat.mul_comm]
          have hraw:rawN true 5 (b.drop m) = if 0 < i∧cn = 0 then none else some (x + t,i + 1):=by
            rw [y3,hnx]
            simp only [rawN]
            rw [if_neg c7]
            by_cases z0:0 < i∧cn = 0
            · rw [if_pos z0,if_pos ⟨by simp; omega,by omega⟩]; try rfl
            · rw [if_neg z0,if_neg (fun e => z0 ⟨by have:=e.1; simp at this; omega,by have:=e.2; omega⟩)]
              simp [rawR,ht2]
          by_cases z0:0 < i∧cn = 0
          · have hgn2:gN b (m:Int) = none:=by rw [hgn,hraw,if_pos z0]; try rfl
            obtain ⟨z1,z2⟩:=z0
            have z3:(0:Int) < (i:Int):=by omega
            unfold pl495_0
            refine Ud (J8 hgc hce hmi w1 w2 w3 w4 (J8 w5 c1 c2 c3 c4 c5 x7 (J8 x0 x1 x2 x3 x4 c7 c8 (J3 z1 z2 hgn2)))) ?_
            simp [pf495,hgn2]
          · by_cases z5:x + t≤2000000000
            · have hgn2:gN b (m:Int) = some (zagF ((x:Int) + (t:Int)),(m:Int) + (i:Int) + 1):=by
                rw [hgn,hraw,if_neg z0]
                simp [fin5,z5]; omega
              have z6:¬ (2000000000:Int) < (x:Int) + (t:Int):=by omega
              have z7:0 < i→cn ≠ 0:=fun e1 e2 => z0 ⟨e1,e2⟩
              by_cases z8:0 < i
              · have z9:=z7 z8
                unfold pl495_0
                refine Ud (J8 hgc hce hmi w1 w2 w3 w4 (J8 w5 c1 c2 c3 c4 c5 x7 (J8 x0 x1 x2 x3 x4 c7 c8 (J4 z6 z8 z9 hgn2)))) ?_
                simp [pf495,hgn2]
              · unfold pl495_0
                refine Ud (J8 hgc hce hmi w1 w2 w3 w4 (J8 w5 c1 c2 c3 c4 c5 x7 (J8 x0 x1 x2 x3 x4 c7 c8 (J3 z6 z8 hgn2)))) ?_
                simp [pf495,hgn2]
            · have hgn2:gN b (m:Int) = none:=by
                rw [hgn,hraw,if_neg z0]
                simp [fin5,z5]
              have z6:(2000000000:Int) < (x:Int) + (t:Int):=by omega
              unfold pl495_0
              refine Ud (J8 hgc hce hmi w1 w2 w3 w4 (J8 w5 c1 c2 c3 c4 c5 x7 (J8 x0 x1 x2 x3 x4 c7 c8 (J2 z6 hgn2)))) ?_ ?_
              all_goals repeat intro hc
              all_goals simp [pf495,hgn2]
  · have hgn2:gN b u = none:=by simp [gN]; omega
    by_cases ee:u = (b.length:Int)
    · subst ee
      repeat' (first
        | with_reducible (first | refine wp_seq ?_ | refine wp_blk ?_ | refine wp_skip ?_ | refine wp_exit ?_ | refine wp_ret ?_ | refine seqQ_norm ?_ | refine seqQ_ret ?_ | refine seqQ_exit ?_ | refine blkQ_norm ?_ | refine blkQ_ret ?_ | refine blkQ_exit ?_ | refine loopQ_norm ?_ | refine loopQ_exit ?_ | refine loopQ_ret ?_ | refine endQ_ret ?_ | refine endQ_norm ?_ | refine endE_ret ?_ | refine endE_norm ?_ | refine endI_ret ?_ | refine endI_norm ?_)
        | (with_reducible refine wp_loop (c:=pl495_0) ?_
           conv => arg 2; unfold pl495_0)
        | (with_reducible refine wp_regK fun K hK => ?_
           simp[hgn2]
           repeat' (with_reducible first | refine hK _ ?_ | (refine psel ?_ ?_ <;> (intro hc; (try rw [Decidable.not_not] at hc); first | (exfalso; omega) | (try simp [hc,hgn2]))))
           all_goals (clear hK; clear K))
        | (with_reducible refine wp_condE ?_
           refine ⟨_,rfl,?_,?_⟩ <;> (intro hc; (try simp at hc); (all_goals first | (exfalso; omega) | skip))))
      simp [pf495,hgn2]
    · refine Ud hgn2 ?_ ?_
      all_goals repeat intro hc
      all_goals simp [pf495,hgn2]

end Go.Proofs.YtcgekefbkccelaaGreat.OM
