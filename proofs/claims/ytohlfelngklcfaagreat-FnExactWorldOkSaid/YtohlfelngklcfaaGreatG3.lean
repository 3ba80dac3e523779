/- A part of the proof. -/
import Derived.Test.YtohlfelngklcfaaGreatG2
import Derived.ChangeSame
import Derived.RowKit
import Derived.RowKit3
import Derived.OpenShut
import Derived.ChangeArms
import Derived.WideKeyArgs
import Derived.Test.YtohlfelngklcfaaGreatG0
set_option linter.all false
namespace Go.Proofs.YtohlfelngklcfaaGreat.OM
open Bool renaming and_eq_true→za
open List renaming all_eq_true→zb,append_nil→zd,getElem?_append_right→ze,getElem?_append_left→zf,contains_iff_mem→zg,mem_iff_getElem→zh,replicate→zi,mem_cons→zj
section
abbrev di (n:Int):D:=.int .i64 n
abbrev vi (n:Int):V:=.one (.ro false (.int .i64 n))
abbrev vb (b:Bool):V:=.one (.ro false (.bool b))
section
variable {Γ:Env} {Q:Out→Prop} {L:AL}
theorem ur {live aQ ops draw} (h:∀K:Out→Prop,(∀o,Q o→K o)→t_ K (my Γ live aQ ops draw L)):Wp Γ (.ff live aQ ops draw) Q L:=
 anr (h Q fun _ h=>h)
theorem ud {b:PC} (h:Wp Γ b Q L):wH Γ b Q (.norm L):=h
theorem uc {b:PC} {i:Nat} (h:Q (.exit i L)):wH Γ b Q (.exit i L):=h
theorem ue {b:PC} (h:Q (.ret L)):wH Γ b Q (.ret L):=h
theorem sP {id:Nat} (h:Q (.norm L)):rK id Q (.norm L):=h
theorem sQ {id:Nat} (h:Q (.ret L)):rK id Q (.ret L):=h
theorem sO {id:Nat} (h:Q (.norm L)):rK id Q (.exit id L):=by simp only [rK,if_true];exact h
theorem Jk {id i:Nat} (hi:i≠id) (h:Q (.exit i L)):rK id Q (.exit i L):=by simp only [rK,if_neg hi];exact h
theorem tg {F:PF} {xs:List V} {y} (h:finish F xs L=some y):yp F xs y (.ret L):=h
theorem tf {F:PF} {xs:List V} {y} (h:finish F xs L=some y):yp F xs y (.norm L):=h
theorem u' {x:PX} {a b:PC} (h:∃t,(L.st.ev x).asBool=some t∧(t=true→Wp Γ a Q L)∧(t=false→Wp Γ b Q L)):Wp Γ (.cond x a b) Q L:=by
 obtain ⟨t,h1,h2,h3⟩:=h;exact wp_cond h1 h2 h3
def CT (F:PF) (xs:List V) (Φ:V×List (Nat×Nat×C)→Prop):Out→Prop
 |.ret L|.norm L=>∃y,finish F xs L=some y∧Φ y
 |_=>False
theorem tc {F:PF} {xs:List V} {Φ} (h:∃y,finish F xs L=some y∧Φ y):CT F xs Φ (.ret L):=h
theorem ta {F:PF} {xs:List V} {Φ} (h:∃y,finish F xs L=some y∧Φ y):CT F xs Φ (.norm L):=h
theorem adJ {T:Nat→Option PF} {f:Nat} {F:PF} {xs:List V} {Φ} (hT:T f=some F)
 (hc:(xs.all V.sN&&F.io.all (fun i=>((f_ 0 xs).get i).2.isSome))=true)
 (h:Wp (Gw T) F.body (CT F xs Φ) (f_ 0 xs)):∃y,Gw T f xs=some y∧Φ y:=by
 obtain ⟨n,o,h1,h2,h3⟩:=h;cases o with
 |fail=>exact absurd rfl h2
 |norm L=>
  obtain ⟨y,h4,h5⟩:=h3;exact ⟨y,oD hT hc ⟨n,.norm L,h1,h2,h4⟩,h5⟩
 |ret L=>
  obtain ⟨y,h4,h5⟩:=h3;exact ⟨y,oD hT hc ⟨n,.ret L,h1,h2,h4⟩,h5⟩
 |exit i L=>exact h3.elim
def CU (F:PF) (xs:List V) (Φ:Int→Prop):Out→Prop
 |.ret L|.norm L=>∃n,finish F xs L=some (vi n,[])∧Φ n
 |_=>False
theorem te {F:PF} {xs:List V} {Φ} (h:∃n,finish F xs L=some (vi n,[])∧Φ n):CU F xs Φ (.ret L):=h
theorem td {F:PF} {xs:List V} {Φ} (h:∃n,finish F xs L=some (vi n,[])∧Φ n):CU F xs Φ (.norm L):=h
theorem jT {T:Nat→Option PF} {f:Nat} {F:PF} {xs:List V} {Φ:Int→Prop} (hT:T f=some F)
 (hc:(xs.all V.sN&&F.io.all (fun i=>((f_ 0 xs).get i).2.isSome))=true)
 (h:Wp (Gw T) F.body (CU F xs Φ) (f_ 0 xs)):∃n,Gw T f xs=some (vi n,[])∧Φ n:=by
 obtain ⟨y,h1,n,rfl,h2⟩:=adJ (Φ:=fun y=>∃n,y=(vi n,[])∧Φ n) hT hc (h.mono fun o _ ho=>by
  cases o with
  |norm L=>obtain ⟨n,h1,h2⟩:=ho;exact ⟨_,h1,n,rfl,h2⟩
  |ret L=>obtain ⟨n,h1,h2⟩:=ho;exact ⟨_,h1,n,rfl,h2⟩
  |_=>exact ho.elim)
 exact ⟨n,h1,h2⟩
def AD {σ:Type} (I:σ→AL) (P:σ→Prop) (m:σ→Nat) (n:Nat) (Q:Out→Prop):Out→Prop
 |.norm L'=>∃s',L'=I s'∧P s'∧m s'<n
 |o=>Q o
theorem ba {c:PC} {σ:Type} (I:σ→AL) (P:σ→Prop) (m:σ→Nat) (s0:σ) (h0:L=I s0) (hP:P s0) (step:∀s,P s→Wp Γ c (AD I P m (m s) Q) (I s)):Wp Γ (.loop c) Q L:=by
 subst h0
 have key:∀n s,m s<n→P s→Wp Γ (.loop c) Q (I s):=by
  intro n;induction n with
  |zero=>intro s h;omega
  |succ n ih=>
   intro s h hP;refine wp_loop ((step s hP).mono fun o ho h1=>?_);cases o with
   |fail=>exact absurd rfl ho
   |norm L'=>
    obtain ⟨s',rfl,h2,h3⟩:=h1;exact ih s' (by omega) h2
   |exit i L'=>exact h1
   |ret L'=>exact h1
 exact key _ s0 (Nat.lt_succ_self _) hP
theorem tQ {σ:Type} {I:σ→AL} {P:σ→Prop} {m:σ→Nat} {n:Nat} (h:∃s',L=I s'∧P s'∧m s'<n):AD I P m n Q (.norm L):=h
theorem tP {σ:Type} {I:σ→AL} {P:σ→Prop} {m:σ→Nat} {n i:Nat} (h:Q (.exit i L)):AD I P m n Q (.exit i L):=h
theorem tR {σ:Type} {I:σ→AL} {P:σ→Prop} {m:σ→Nat} {n:Nat} (h:Q (.ret L)):AD I P m n Q (.ret L):=h
@[simp] theorem wrap_i64 {n:Int} (h1:-9223372036854775808≤n) (h2:n≤9223372036854775807):IntKind.wrap .i64 n=n:=by
 simp [IntKind.wrap,IntKind.signed,IntKind.bits];omega
@[simp] theorem wrap_u8 {n:Int} (h1:0≤n) (h2:n≤255):IntKind.wrap .u8 n=n:=by
 simp [IntKind.wrap,IntKind.signed,IntKind.bits];omega
theorem ajd {β:Type} {l:List (Nat×β)} {k:Nat} {b:β} (h:l.lookup k=some b):(k,b)∈l:=by
 induction l with
 |nil=>simp at h
 |cons x l ih=>
  obtain ⟨k',b'⟩:=x;rw [List.lookup_cons] at h;split at h
  ·rename_i e;have:=beq_iff_eq.1 e;subst this;simp at h;subst h;simp
  ·exact List.mem_cons_of_mem _ (ih h)
@[simp] theorem afe {α:Type} {n:Nat} (l r:List α) (x:α) (h:n=l.length):(l++x::r)[n]?=some x:=by subst h;simp
@[simp] theorem arp {α:Type} {n:Nat} (l r:List α) (x y:α) (h:n=l.length):(l++x::r).set n y=l++y::r:=by subst h;simp
end
section
variable {α β:Type}
def ob (x:Option α) (f:α→Option β):Option β:=match x with
 |some a=>f a
 |none=>none
@[simp] theorem aq8 (a:α) (f:α→Option β):ob (some a) f=f a:=rfl
@[simp] theorem aq7 (f:α→Option β):ob none f=none:=rfl
inductive Tag.{u} {α:Sort u} (x y:α):Type
 |mk:Tag x y
def oV (c:Prop) [Decidable c] (x y:α) (_:Tag x y):α:=if c then x else y
@[simp] theorem aqT (x y:α) (t:Tag x y):oV True x y t=x:=rfl
@[simp] theorem aqS (x y:α) (t:Tag x y):oV False x y t=y:=rfl
@[simp] theorem aq6 (c:Prop) [Decidable c] (x y:Option α) (f:α→Option β):ob (if c then x else y) f=oV c (ob x f) (ob y f) .mk:=by unfold oV;split<;>rfl
@[simp] theorem aq5 (c:Prop) [Decidable c] (x y:Option α) (t:Tag x y) (f:α→Option β):ob (oV c x y t) f=oV c (ob x f) (ob y f) .mk:=by unfold oV;split<;>rfl
def yc (c a b:Prop) (_:Tag a b):Prop:=(c→a)∧(¬c→b)
@[simp] theorem aoj (a b:Prop) (t:Tag a b):yc True a b t=a:=by simp [yc]
@[simp] theorem aoi (a b:Prop) (t:Tag a b):yc False a b t=b:=by simp [yc]
theorem fq {c a b:Prop} {t:Tag a b} (h1:c→a) (h2:¬c→b):yc c a b t:=⟨h1,h2⟩
def C2 (a:AV) (want:Bool) (x y:Option St):Option St:=match a with
 |.v _ (.bool b)=>if b=want then x else y
 |.cf []=>y
 |_=>none
@[simp] theorem ao6 (k b:Bool) (x y:Option St):C2 (.v k (.bool b)) true x y=oV (b=true) x y .mk:=rfl
@[simp] theorem ao5 (k b:Bool) (x y:Option St):C2 (.v k (.bool b)) false x y=oV (b=true) y x .mk:=by cases b<;>rfl
@[simp] theorem ao7 (want:Bool) (x y:Option St):C2 (.cf []) want x y=y:=rfl
def UP (d:Nat) (S:St) (z:AV×Option Rt×Ms):Option St:=match z with
 |(a,none,m)=>some { av:=bO S.av d a,ms:=m }
 |(a,some r,m)=>match m d with
  |(none,_)=>some { av:=bO S.av d a,ms:=bO m d (some r,[]) }
  |_=>none
def UQ (S:St) (z:AV×Option Rt×Ms):Option St:=match z with
 |(_,none,m)=>some { av:=S.av,ms:=m }
 |_=>none
def stepG (Γ:Env) (dst:Option Nat) (op:bP) (S:St):Option St:=match dst with
 |some d=>ob (bh Γ S.ev d S.ms op) (UP d S)
 |none=>ob (bh Γ S.ev 0 S.ms op) (UQ S)
def UJ (dst:Option Nat) (S:St):Option St:=match dst with
 |some d=>some { S with av:=bO S.av d (.cf []) }
 |none=>some S
theorem acR (Γ:Env) (dst:Option Nat) (op:bP) (S:St):gz Γ ⟨dst,op,none⟩ S=stepG Γ dst op S:=by
 cases dst with
 |some d=>
  show (match bh Γ S.ev d S.ms op with
   |some (a,none,m)=>some { av:=bO S.av d a,ms:=m }
   |some (a,some r,m)=>match m d with
    |(none,_)=>some { av:=bO S.av d a,ms:=bO m d (some r,[]) }
    |_=>none
   |none=>none:Option St)=ob (bh Γ S.ev d S.ms op) (UP d S)
  cases h:bh Γ S.ev d S.ms op with
  |none=>rfl
  |some z=>obtain ⟨a,r,m⟩:=z;cases r<;>rfl
 |none=>
  show (match bh Γ S.ev 0 S.ms op with
   |some (_,none,m)=>some { av:=S.av,ms:=m }
   |_=>none:Option St)=ob (bh Γ S.ev 0 S.ms op) (UQ S)
  cases h:bh Γ S.ev 0 S.ms op with
  |none=>rfl
  |some z=>obtain ⟨a,r,m⟩:=z;cases r<;>rfl
theorem alM {Γ:Env} {o:PO} {S:St} (h:gd S o.g=some true):gz Γ o S=stepG Γ o.dst o.op S:=by
 rw [←acR];unfold gz;rw [h];rfl
theorem acQ {Γ:Env} {o:PO} {S:St} (h:gd S o.g=some false):gz Γ o S=UJ o.dst S:=by
 unfold gz;rw [h];rfl
theorem alK {Γ:Env} {o:PO} {S:St} (h:gd S o.g=none):gz Γ o S=none:=by
 unfold gz;rw [h]
theorem alI (Γ:Env) (dst:Option Nat) (op:bP) (t:Nat) (want:Bool) (S:St):gz Γ ⟨dst,op,some (t,want)⟩ S=C2 (S.av t) want (stepG Γ dst op S) (UJ dst S):=by
 have hg:gd S (some (t,want))=match S.av t with
  |.v _ (.bool b)=>some (b==want)
  |.cf []=>some false
  |_=>none:=rfl
 unfold C2;split
 ·rename_i k b fG;rw [fG] at hg;by_cases hb:b=want
  ·rw [if_pos hb];exact alM (hg.trans (by simp [hb]))
  ·rw [if_neg hb];exact acQ (hg.trans (by simp [hb]))
 ·rename_i fG;rw [fG] at hg;exact acQ hg
 ·rename_i h1 h2;refine alK (hg.trans ?_);split
  ·rename_i k b fG;exact absurd fG (h1 k b)
  ·rename_i fG;exact absurd fG h2
  ·rfl
theorem ak3 (Γ:Env) (o:PO) (os:List PO) (S:St):jv Γ (o::os) S=ob (gz Γ o S) (jv Γ os):=by
 simp only [jv];cases gz Γ o S<;>rfl
theorem ae6 (Γ:Env) (o:PO) (os:List PO) (S:St):mH Γ (o::os) S=match gz Γ o S with
 |some S'=>(kE S o,gu S o)::mH Γ os S'
 |none=>[]:=rfl
def ti (live:List Nat) (aQ:List (Nat×Nat)):Option St→Out
 |some S=>.norm (settle live aQ S)
 |none=>.fail
@[simp] theorem aoR (live aQ S):ti live aQ (some S)=.norm (settle live aQ S):=rfl
@[simp] theorem aoQ (live aQ):ti live aQ none=.fail:=rfl
@[simp] theorem aoP (live aQ) (c:Prop) [Decidable c] (x y:Option St):ti live aQ (if c then x else y)=oV c (ti live aQ x) (ti live aQ y) .mk:=by unfold oV;split<;>rfl
@[simp] theorem aoO (live aQ) (c:Prop) [Decidable c] (x y:Option St) (t:Tag x y):ti live aQ (oV c x y t)=oV c (ti live aQ x) (ti live aQ y) .mk:=by unfold oV;split<;>rfl
theorem ak9 (Γ:Env) (live aQ ops) (L:AL):my Γ live aQ ops none L=ti live aQ (jv Γ ops L.st):=by
 simp only [my,if_true];cases jv Γ ops L.st<;>rfl
theorem ak8 (Γ:Env) (live aQ ops) (L:AL):my Γ live aQ ops (some []) L=ti live aQ (jv Γ ops L.st):=by
 simp only [my,List.isEmpty_nil,Bool.true_or,if_true];cases jv Γ ops L.st<;>rfl
theorem ak5 (Γ:Env) (live aQ ops p ps) (L:AL):my Γ live aQ ops (some (p::ps)) L=if xw (mH Γ ops L.st) (p::ps)=true then ti live aQ (jv Γ ops L.st) else .fail:=by
 simp only [my,List.isEmpty_cons,Bool.false_or];cases jv Γ ops L.st<;>split<;>rfl
theorem akV (Q:Out→Prop) (c:Prop) [Decidable c] (x y:Out):t_ Q (if c then x else y)=yc c (t_ Q x) (t_ Q y) .mk:=by
 by_cases h:c<;>simp [h]
theorem akU (Q:Out→Prop) (c:Prop) [Decidable c] (x y:Out) (t:Tag x y):t_ Q (oV c x y t)=yc c (t_ Q x) (t_ Q y) .mk:=by
 by_cases h:c<;>simp [h,oV]
@[simp] theorem arn (Q:Out→Prop) (L:AL):t_ Q (.norm L)=Q (.norm L):=rfl
@[simp] theorem arl (Q:Out→Prop):t_ Q .fail=False:=rfl
end
@[simp] theorem asP {α:Type} (f:Nat→α) (n:Nat) (x:α) (k:Nat):bO f n x k=if k=n then x else f k:=rfl
@[simp] theorem arw (L:AL) (n:Nat):L.st.av n=(L.get n).1:=rfl
@[simp] theorem arx (L:AL) (n:Nat):L.st.ms n=((L.get n).2,[]):=rfl
attribute [simp] ak9 ak8 ak5 ak3 acR alI akV akU UP UQ stepG UJ bh f_ imp v_ rY mR wi Bi V.flat C.gx AL.get St.ev mw sk AV.cells settle jG ju iH Jh wb xb fixC vk AV.asBool AV.asInt oW finish wk Ct ml B3 AG iA jC Wt Wu alO se Ms.eC wI D.dt Ms.jE ym Ms.at Ms.cell Rt.cells D.kt D.put Rt.lL Ms.putAt vo uh wK C.xQ mV sa rm C.dt jU oG qb qc AV.lent AV.DM og V.plain V.xH V.fl V.wj C.fl C.dP pW Ms.take ER vC rZ V.sN tO CM cut sT th chunks xM aeh AV.vE AV.DK AV.AZ V.ajM C.rk adn ad' My List.contains_eq_mem we xP
attribute [simp] jv.eq_1
end
section
section
variable {P:Program} {H:Type} {enc:TypeId×Value→H} {w w':World}
inductive ep (P:Program):TypeId→List D→Prop
 |int {t:TypeId} {k:IntKind} {n:Int}:P.underlying t=some (.int k)→(Lit.int k n).wf=true→ep P t [.int k n]
 |bool {t:TypeId} {b:Bool}:P.underlying t=some .bool→ep P t [.bool b]
 |str {t:TypeId} {s:ByteArray}:P.underlying t=some .string→s.size≤maxLen→ep P t [.str s]
 |sl {t e:TypeId} {es:List (List D)}:P.underlying t=some (.slice e)→es.length≤maxLen→(∀x∈es,ep P e x)→ep P t [.sl (P.cellsOf e) es]
 |struct {t:TypeId} {fs:Array Field} {ds:List D}:P.underlying t=some (.struct fs)→ds.length=P.cellsOf t→
  (∀f∈fs.toList,ep P f.type ((ds.drop f.offset).take (P.cellsOf f.type)))→ep P t ds
def EO (P:Program) (n:Nat):Nat→List Field→Bool
 |o,[]=>o==n
 |o,f::fs=>f.offset==o&&EO P n (o+P.cellsOf f.type) fs
def Us (P:Program) (S:List TypeId) (t:TypeId):Bool:=
 match P.underlying t with
 |some .bool|some (.int _)|some .string=>P.cellsOf t==1
 |some (.slice e)=>S.contains e&&decide (0<P.cellsOf e)&&P.cellsOf t==1
 |some (.struct fs)=>(fs.toList.all fun f=>S.contains f.type)&&EO P (P.cellsOf t) 0 fs.toList
 |_=>false
def Fi (P:Program) (S:List TypeId):Bool:=S.all (Us P S)
def E4 (w:World) (cl:Nat→gR) (ds:List D) (vs:List Value):Prop:=∀(i:Nat) (d:D) (v:Value),ds[i]?=some d→vs[i]?=some v→RO w cl false d v
theorem ai' {α:Type} {R:Nat→α→Prop}:∀(n:Nat),(∀i,i<n→∃x,R i x)→∃l:List α,l.length=n∧∀(i:Nat) (x:α),l[i]?=some x→R i x:=by
 intro n;induction n with
 |zero=>intro _;exact ⟨[],rfl,fun i x h=>by simp at h⟩
 |succ n ih=>
  intro h;obtain ⟨l,h1,h2⟩:=ih fun i hi=>h i (by omega)
  obtain ⟨x,hx⟩:=h n (by omega);refine ⟨l++[x],by simp [h1],fun i y hy=>?_⟩;by_cases hi:i<l.length
  ·rw [zf hi] at hy;exact h2 i y hy
  ·rw [ze (by omega)] at hy
   have:i-l.length=0:=by
    cases hk:i-l.length with
    |zero=>rfl
    |succ k=>rw [hk] at hy;simp at hy
   rw [this] at hy;simp at hy;subst hy;have:i=n:=by omega
   subst this;exact hx
theorem amO {cl:Nat→gR} {cs:List Value} {n:Nat}:∀(fs:List Field) (o:Nat),EO P n o fs=true→
 (∀f∈fs,∃df,ep P f.type df∧df.length=P.cellsOf f.type∧E4 w cl df ((cs.drop f.offset).take (P.cellsOf f.type)))→
 ∃ds,o+ds.length=n∧(∀f∈fs,o≤f.offset∧ep P f.type ((ds.drop (f.offset-o)).take (P.cellsOf f.type)))∧E4 w cl ds (cs.drop o):=by
 intro fs;induction fs with
 |nil=>
  intro o h _;simp only [EO,beq_iff_eq] at h;exact ⟨[],by simpa using h,fun f hf=>by simp at hf,fun i d v hd=>by simp at hd⟩
 |cons f fs ih=>
  intro o h hf;simp only [EO,za,beq_iff_eq] at h;obtain ⟨rfl,h⟩:=h;obtain ⟨ds,h1,h2,h3⟩:=ih _ h fun g hg=>hf g (by simp [hg])
  obtain ⟨df,h4,h5,h6⟩:=hf f (by simp);refine ⟨df++ds,by simp;omega,fun g hg=>?_,fun i d v hd hv=>?_⟩
  ·rcases zj.1 hg with rfl|hg
   ·refine ⟨Nat.le_refl _,?_⟩;rw [Nat.sub_self,List.drop_zero,←h5,List.take_append_of_le_length (Nat.le_refl _),List.take_length];exact h4
   ·obtain ⟨q1,q2⟩:=h2 g hg;refine ⟨by omega,?_⟩;rw [List.drop_append,List.drop_eq_nil_of_le (by omega),List.nil_append,show g.offset-f.offset-df.length=g.offset-(f.offset+P.cellsOf f.type) from by omega];exact q2
  ·by_cases hi:i<df.length
   ·rw [zf hi] at hd;refine h6 i d v hd ?_;rw [List.getElem?_take,if_pos (by omega)];exact hv
   ·rw [ze (by omega)] at hd;refine h3 (i-df.length) d v hd ?_;rw [List.getElem?_drop] at hv ⊢;rw [show f.offset+P.cellsOf f.type+(i-df.length)=f.offset+i from by omega];exact hv
theorem cells?_some {base:Nat} {a:Addr} {n:Nat} {cs:List Value} (h:w.cells? base a n=some cs):cs.length=n∧∀i,i<n→∃v,cs[i]?=some v∧w.cell? (a.add i)=some v:=by
 unfold World.cells? at h;split at h
 ·have h1:=mapM_some_length h;refine ⟨by simpa using h1,fun i hi=>?_⟩;have h2:=mapM_some_get h i i (by simp [hi]);rw [List.length_range] at h1;have h4:i<cs.length:=by omega
  have h3:cs[i]?=some cs[i]:=by simp [h4]
  exact ⟨_,h3,h2.trans h3⟩
 ·cases h
theorem DS {cl:Nat→gR} {d:D} {v:Value} (h:RO w cl false d v):E4 w cl [d] [v]:=by
 intro i d' v' hd hv;cases i<;>simp at hd hv;subst hd;subst hv;exact h
theorem amT {S:List TypeId} (hS:Fi P S=true) {cl:Nat→gR} (aD:∀b,b<w.heap.size→cl b=.nz):∀(fuel:Nat) (t:TypeId) (cs:List Value) (held:Bool) (x:DataW H×List MemPlace),t∈S→
 DataW.trod enc P w 0 (fun _=>true) held fuel t cs=some x→∃ds,ep P t ds∧ds.length=cs.length∧cs.length=P.cellsOf t∧E4 w cl ds cs:=by
 intro fuel;induction fuel with
 |zero=>intro t cs held x _ h;simp [DataW.trod] at h
 |succ fuel ih=>
  intro t cs held x ht h;have hp:=zb.1 hS t ht;unfold Us at hp;split at hp
  ·rename_i hu;obtain ⟨b,rfl,_⟩:=DataW.trod_bool hu h;exact ⟨[.bool b],.bool hu,rfl,by simpa using (beq_iff_eq.1 hp).symm,DS (.bool _)⟩
  ·rename_i k hu;obtain ⟨n,rfl,_,hw⟩:=DataW.trod_int hu h;exact ⟨[.int k n],.int hu hw,rfl,by simpa using (beq_iff_eq.1 hp).symm,DS (.int _ _)⟩
  ·rename_i hu;obtain ⟨s,rfl,_,hs⟩:=DataW.trod_string hu h;exact ⟨[.str s],.str hu hs,rfl,by simpa using (beq_iff_eq.1 hp).symm,DS (.str _)⟩
  ·rename_i e hu;simp only [za,beq_iff_eq,decide_eq_true_eq,zg] at hp;obtain ⟨⟨he,dM⟩,hp⟩:=hp;rcases DataW.trod_slice hu h with ⟨rfl,_⟩|⟨a,len,cap,elems,rest,n,hn,rfl,_,jr,hle,ew,hlen,pF,_,_⟩
   ·exact ⟨[.sl (P.cellsOf e) []],.sl hu (by simp) (by simp),rfl,by simpa using hp.symm,DS (.emp _ _ _)⟩
   ·cases hn
    have uP:∀i,i<len→∃ds,ep P e ds∧ds.length=P.cellsOf e∧∀j,j<P.cellsOf e→∃v d,w.cell? ((a.add (i*P.cellsOf e)).add j)=some v∧ds[j]?=some d∧RO w cl false d v:=by
     intro i hi;have h2:=pF i hi;have h2':elems[i]?=some elems[i]:=by simp [show i<elems.length from by omega]
     rw [h2'] at h2;simp only [Option.bind_eq_some_iff] at h2;obtain ⟨csi,h3,h4⟩:=h2;obtain ⟨h5,h6⟩:=cells?_some h3;obtain ⟨ds,h7,h8,h9,Kf⟩:=ih e csi held _ he h4;refine ⟨ds,h7,h8.trans h5,fun j hj=>?_⟩;obtain ⟨v,h11,h12⟩:=h6 j hj;have hd:ds[j]?=some ds[j]:=by simp [show j<ds.length from by omega]
     exact ⟨v,_,h12,hd,Kf j _ v hd h11⟩
    obtain ⟨es,uJ,hR⟩:=ai' len uP
    have yG:∀y∈es,ep P e y∧y.length=P.cellsOf e:=fun y hy=>by
     obtain ⟨i,hi,rfl⟩:=zh.1 hy;obtain ⟨h1,h2,_⟩:=hR i es[i] (by simp [hi]);exact ⟨h1,h2⟩
    refine ⟨[.sl (P.cellsOf e) es],.sl hu (by omega) (fun y hy=>(yG y hy).1),rfl,by simpa using hp.symm,DS ?_⟩;rcases Nat.eq_zero_or_pos len with h0|h0
    ·have h00:es=[]:=List.length_eq_zero_iff.1 (uJ.trans h0);subst h00;subst h0;exact .emp _ _ _
    ·obtain ⟨b,off,spot⟩:=a
     have agr:spot=none∧b<w.heap.size:=by
      obtain ⟨_,_,h3⟩:=hR 0 es[0] (by simp);obtain ⟨v,d,h4,_⟩:=h3 0 dM;simp only [World.cell?,Addr.add,Nat.zero_mul,if_true] at h4;split at h4
      ·rename_i c1 t1 f1 hb;split at h4
       ·cases h4
       ·rename_i qz;exact ⟨by simpa using qz,(Array.getElem?_eq_some_iff.1 hb).1⟩
      ·cases h4
     obtain ⟨rfl,hb⟩:=agr;rw [←uJ]
     have aaw:∀i j,((⟨b,off,none⟩:Addr).add (i*P.cellsOf e)).add j=⟨b,off+i*P.cellsOf e+j,none⟩:=fun i j=>by
      simp only [Addr.add];split<;>split<;>simp_all
     refine .sl _ _ _ _ _ (aD b hb) (fun y hy=>(yG y hy).2) (by omega) (fun i j hi hj=>?_) (fun i j y d v hy hd hv=>?_)
     ·obtain ⟨_,_,h3⟩:=hR i es[i] (by simp [hi]);obtain ⟨v,d,h4,_⟩:=h3 j hj;rw [aaw] at h4;simp [h4]
     ·obtain ⟨_,h2,h3⟩:=hR i y hy;have hj:=(List.getElem?_eq_some_iff.1 hd).1;obtain ⟨v',d',h4,h5,h6⟩:=h3 j (by omega);rw [aaw,hv] at h4;rw [hd] at h5;cases h4;cases h5;exact h6
  ·rename_i fs hu;simp only [za] at hp;obtain ⟨nT,ah9⟩:=hp;obtain ⟨xs,n,hn,_,hlen,iF,hx⟩:=DataW.trod_struct hu h;cases hn
   obtain ⟨ds,h1,h2,h3⟩:=amO (w:=w) (cl:=cl) (cs:=cs) fs.toList 0 ah9 (fun f hf=>by
    obtain ⟨i,hi,rfl⟩:=zh.1 hf;have lz:i<fs.size:=by simpa using hi
    have h4:=hx i fs.toList[i] (by simp [lz]);have h5:xs[i]?=some xs[i]:=by simp [show i<xs.length from by omega]
    rw [h5] at h4;have h6:=zb.1 nT _ hf;obtain ⟨df,h7,h8,h9,Kf⟩:=ih _ _ held _ (by simpa using h6) h4
    exact ⟨df,h7,h8.trans h9,Kf⟩)
   refine ⟨ds,.struct hu (by omega) (fun f hf=>by have:=(h2 f hf).2;rwa [Nat.sub_zero] at this),by omega,hlen,by simpa using h3⟩
  ·cases hp
end
end
section
open Go.ChangeShapes Go.RowKit
section
variable {P:Program} {H:Type} {enc:TypeId×Value→H} {W:World}
def nK (P:Program) (t:TypeId) (x:V):Prop:=∃ds,ep P t ds∧match P.underlying t with
 |some (.struct _)=>x=.st (ds.map (.ro false))
 |_=>∃d,ds=[d]∧x=.one (.ro false d)
inductive qM (P:Program):List TypeId→List V→Prop
 |nil:qM P [] []
 |cons {t ts x xs}:nK P t x→qM P ts xs→qM P (t::ts) (x::xs)
def r_ (W:World):Gh:={ cl:=fun b=>if b<W.heap.size then .nz else .no,hd:=fun _ _ _=>.nilIface,bk:=fun _=>0 }
theorem akY (ds:List D):(ds.map (C.ro false)).any C.gx=false:=by simp [C.gx]
theorem ad2 {S:List TypeId} (hS:Fi P S=true) {t:TypeId} (ht:t∈S) {v:Value} {d:DataW H} {ps:List MemPlace} {r:Reach} {base:Nat} (i:Nat) (hv:Value.okWide P W r base t v)
 (h:DataW.Trod enc P W 0 (fun _=>true) true t v d ps):∃x,nK P t x∧pY W (r_ W) i x v:=by
 obtain ⟨fuel,h⟩:=h;obtain ⟨ds,h1,h2,h3,h4⟩:=amT (cl:=(r_ W).cl) hS (fun b hb=>by simp [r_,hb]) fuel t v.cells.toList true _ ht h;have hp:=zb.1 hS t ht;unfold Us at hp;unfold Value.okWide at hv
 have one:(∀fs,P.underlying t≠some (.struct fs))→v.cells=#[v]→P.cellsOf t=1→∃x,nK P t x∧pY W (r_ W) i x v:=by
  intro hn hc h5;rw [h3,h5] at h2
  match ds,h2 with
  |[dd],_=>
   refine ⟨.one (.ro false dd),⟨[dd],h1,?_⟩,⟨.ro _ _ _ (h4 0 dd v rfl (by rw [hc];rfl)),hc⟩,fun h=>by simp [V.flat,C.gx] at h⟩;split
   ·rename_i fs hu;exact absurd hu (hn fs)
   ·exact ⟨dd,rfl,rfl⟩
 split at hp
 ·rename_i hu;refine one (fun fs e=>by rw [hu] at e;cases e) ?_ (by simpa using hp);rw [hu] at hv;simp only [Cell.okWide,hu] at hv;cases v<;>simp [Cell.ok,hu] at hv<;>rfl
 ·rename_i k hu;refine one (fun fs e=>by rw [hu] at e;cases e) ?_ (by simpa using hp);rw [hu] at hv;simp only [Cell.okWide,hu] at hv;cases v<;>simp [Cell.ok,hu] at hv<;>rfl
 ·rename_i hu;refine one (fun fs e=>by rw [hu] at e;cases e) ?_ (by simpa using hp);rw [hu] at hv;simp only [Cell.okWide,hu] at hv;cases v<;>simp [Cell.ok,hu] at hv<;>rfl
 ·rename_i e hu;simp only [za,beq_iff_eq] at hp;refine one (fun fs e=>by rw [hu] at e;cases e) ?_ hp.2;rw [hu] at hv;simp only [Cell.okWide,hu] at hv;cases v<;>simp [Cell.ok,hu] at hv<;>rfl
 ·rename_i fs hu;rw [hu] at hv;obtain ⟨cs,rfl,_⟩:=hv;refine ⟨.st (ds.map (.ro false)),⟨ds,h1,by rw [hu]⟩,⟨cs,rfl,by rw [List.length_map];exact h2,fun k c x hc hx=>?_⟩,fun h=>by simp only [V.flat] at h;rw [akY] at h;cases h⟩;rw [List.getElem?_map] at hc;cases hd:ds[k]? with
  |none=>rw [hd] at hc;cases hc
  |some dd=>
   rw [hd] at hc;simp at hc;subst hc;exact .ro _ _ _ (h4 k dd x hd hx)
 ·cases hp
theorem ad3 {S:List TypeId} (hS:Fi P S=true):∀(ts:List TypeId) (vs:List Value) (ds:List (DataW H)) (ps:List MemPlace) (n:Nat),(∀t∈ts,t∈S)→
 (∀(j:Nat) (t:TypeId) (v:Value),ts[j]?=some t→vs[j]?=some v→∃r base,Value.okWide P W r base t v)→
 DataW.TrodAll enc P W 0 (fun _=>true) true ts vs ds ps→∃xs,qM P ts xs∧vs.length=xs.length∧∀(i:Nat) (x:V) (v:Value),xs[i]?=some x→vs[i]?=some v→pY W (r_ W) (n+i) x v:=by
 intro ts;induction ts with
 |nil=>
  intro vs ds ps n _ _ h;obtain ⟨rfl,_,_⟩:=trodAll_nil h;exact ⟨[],.nil,rfl,fun i x v hx=>by simp at hx⟩
 |cons t ts ih=>
  intro vs ds ps n BQ hv h;obtain ⟨v,IL,d,yo,p,q,rfl,rfl,rfl,h1,h2⟩:=trodAll_cons h;obtain ⟨r,base,fM⟩:=hv 0 t v rfl rfl;obtain ⟨x,h3,h4⟩:=ad2 hS (BQ t (by simp)) n fM h1;obtain ⟨xs,h5,h6,h7⟩:=ih IL yo q (n+1) (fun t ht=>BQ t (by simp [ht])) (fun j t v h1 h2=>hv (j+1) t v (by simpa using h1) (by simpa using h2)) h2;refine ⟨x::xs,.cons h3 h5,by simp [h6],fun i y u hy hu=>?_⟩;cases i with
  |zero=>simp at hy hu;subst hy;subst hu;exact h4
  |succ i=>
   have:=h7 i y u (by simpa using hy) (by simpa using hu);rwa [show n+(i+1)=n+1+i from by omega]
theorem ad4 (hl:laidOutB P=true):∀(ts:List TypeId) (vs:List Value) (ds:List (DataW H)) (ps:List MemPlace) {W':World} {sp:Nat→Bool},
 (∀t∈ts,P.readableRec t=true∧t<P.types.size)→(∀p∈ps,W.sameAt W' p)→(∀p∈ps,sp p.block=true)→
 DataW.TrodAll enc P W 0 (fun _=>true) true ts vs ds ps→DataW.TrodAll enc P W' 0 sp true ts vs ds ps:=by
 intro ts;induction ts with
 |nil=>
  intro vs ds ps W' sp _ _ _ h;obtain ⟨rfl,rfl,rfl⟩:=trodAll_nil h;exact trodAll_mk0
 |cons t ts ih=>
  intro vs ds ps W' sp BQ hs qz h;obtain ⟨v,IL,d,yo,p,q,rfl,rfl,rfl,h1,h2⟩:=trodAll_cons h
  exact trodAll_cons_mk (WideElems.Trod_stays hl (BQ t (by simp)).1 (BQ t (by simp)).2 h1 (fun p hp=>hs p (by simp [hp])) (fun p hp=>qz p (by simp [hp])))
   (ih IL yo q (fun t ht=>BQ t (by simp [ht])) (fun p hp=>hs p (by simp [hp])) (fun p hp=>qz p (by simp [hp])) h2)
theorem alg {W':World} (h:∀b,b<W.heap.size→W'.heap[b]?=W.heap[b]?) {p:MemPlace} (hp:p.block<W.heap.size):W.sameAt W' p:=by
 cases p with
 |cell b o=>simp only [World.sameAt,World.cell?];rw [h b hp]
 |map b=>exact h b hp
theorem ai1 {S:List TypeId} (hS:Fi P S=true) (hl:laidOutB P=true) {f:FuncId} {fn:Func} {s:ChangeSpec} {args:Array Value} {ds gs:List (DataW H)} {before:List MemPlace} {tb:TypeId}
 (ahx:(fn.params.toList.all fun t=>S.contains t&&P.readableRec t&&decide (t<P.types.size))=true)
 (ez:∀xs,qM P fn.params.toList xs→OK P f xs (.one (.ro false (.bool true))) [])
 (BS:∀(j:Nat) t v,fn.params[j]?=some t→args[j]?=some v→∃r base,Value.okWide P W r base t v)
 (hW:DataW.Whole enc P fn.params.toList s.vars false W args.toList ds gs before) (abg:s.vars=[]) (LM:fn.resultTypes=#[tb]) (htb:P.underlying tb=some .bool)
 (hs:ds.length=fn.params.toList.length→(s.fn H ds).results=[.lit (.bool true)]∧(s.fn H ds).args=ds∧(s.fn H ds).vars=[]):
 Calls P f args W fun e W'=>∃v,e=.returned v∧s.post enc P fn false true false false W args v W':=by
 have Kt:=hW;obtain ⟨p,q,hA,hV,rfl,hfz,hnd⟩:=hW;rw [abg] at hV;obtain ⟨rfl,rfl⟩:=trodVars_none hV;rw [zd] at Kt
 have aa1:∀t∈fn.params.toList,t∈S∧P.readableRec t=true∧t<P.types.size:=fun t ht=>by
  have:=zb.1 ahx t ht;simp only [za,zg,decide_eq_true_eq] at this;exact ⟨this.1.1,this.1.2,this.2⟩
 obtain ⟨xs,h1,h2,h3⟩:=ad3 hS fn.params.toList args.toList ds p 0 (fun t ht=>(aa1 t ht).1)
  (fun j t v h1 h2=>BS j t v (by simpa using h1) (by simpa using h2)) hA
 have hlen:ds.length=fn.params.toList.length:=by
  have:∀(ts:List TypeId) (vs:List Value) (ds:List (DataW H)) (ps:List MemPlace),DataW.TrodAll enc P W 0 (fun _=>true) true ts vs ds ps→ds.length=ts.length:=by
   intro ts;induction ts with
   |nil=>intro vs ds ps h;obtain ⟨_,rfl,_⟩:=trodAll_nil h;rfl
   |cons t ts ih=>intro vs ds ps h;obtain ⟨v,IL,d,yo,p,q,_,rfl,_,_,h2⟩:=trodAll_cons h;simp [ih _ _ _ h2]
  exact this _ _ _ _ hA
 obtain ⟨e1,e2,e3⟩:=hs hlen;refine (ez xs h1 W args (r_ W) (by simpa using h2) (fun b hb=>?_) (fun i x v hx hv=>?_)).mono fun e W' he=>?_
 ·simp only [r_,ne_eq] at hb;by_cases h:b<W.heap.size
  ·exact h
  ·simp [h] at hb
 ·have:=h3 i x v hx (by simpa using hv);rwa [Nat.zero_add] at this
 ·obtain ⟨v,g',rfl,hr,hL⟩:=he
  have hv:v=.bool true:=by
   obtain ⟨h5,_⟩:=hr;cases h5 with
   |ro _ _ _ h6=>cases h6;rfl
  subst hv;have hb:∀b,b<W.heap.size→W'.heap[b]?=W.heap[b]?:=fun b hb=>hL.fr b hb (by simp [r_,hb,gR.eG])
  have aaD:∀pp∈p,pp.block<W.heap.size:=fun pp hp=>Kt.lt pp hp
  refine ⟨_,rfl,ds,[],p,[],p,[],Kt,?_,?_,?_,?_,fun h=>by cases h⟩
  ·rw [LM,zd,e1];exact trodAll_cons_mk (shut_bool htb _) trodAll_mk0
  ·rw [zd,e2];exact ad4 hl _ _ _ _ (fun t ht=>(aa1 t ht).2) (fun pp hp=>alg hb (aaD pp hp)) (fun pp hp=>by simpa using aaD pp hp) hA
  ·rw [abg,zd,e3];rfl
  ·refine ⟨hL.sd.os,hL.sd.out,fun i hi=>?_⟩;rw [hb i hi];split<;>simp_all
def fieldsOf (P:Program) (t:TypeId):Option (List (Nat×Nat×Nat)):=match P.underlying t with
 |some (.struct fs)=>some (fs.toList.map fun f=>(f.type,f.offset,P.cellsOf f.type))
 |_=>none
theorem mN {α:Type} {f:α→List D} {ok:α→Prop}:∀{es:List (List D)},(∀x∈es,∃y,x=f y∧ok y)→∃l:List α,es=l.map f∧l.length=es.length∧∀y∈l,ok y:=by
 intro es;induction es with
 |nil=>intro _;exact ⟨[],rfl,rfl,fun y hy=>by simp at hy⟩
 |cons x es ih=>
  intro h;obtain ⟨y,rfl,hy⟩:=h x (by simp);obtain ⟨l,rfl,h2,h3⟩:=ih fun z hz=>h z (by simp [hz])
  refine ⟨y::l,rfl,by simp,fun z hz=>?_⟩;rcases zj.1 hz with rfl|hz
  ·exact hy
  ·exact h3 z hz
theorem wf_i64 {n:Int} (h:(Lit.int .i64 n).wf=true):-9223372036854775808≤n∧n≤9223372036854775807:=by
 simpa [Lit.wf,IntKind.min,IntKind.max,IntKind.signed,IntKind.bits] using h
theorem wf_u8 {n:Int} (h:(Lit.int .u8 n).wf=true):0≤n∧n≤255:=by
 simpa [Lit.wf,IntKind.min,IntKind.max,IntKind.signed,IntKind.bits] using h
end
end
abbrev Am (d x:Nat):PO:=⟨some d,.mv (.t x),none⟩
abbrev Ak (d:Nat) (n:Int):PO:=⟨some d,.mv (.c (.v false (.int .i64 n))),none⟩
abbrev Ac (d:Nat) (a:AV):PO:=⟨some d,.mv (.c a),none⟩
abbrev Ab (op:BinOp) (d x y:Nat):PO:=⟨some d,.bin op (.t x) (.t y),none⟩
abbrev Ae (op:BinOp) (d x:Nat) (n:Int):PO:=⟨some d,.bin op (.t x) (.c (.v false (.int .i64 n))),none⟩
abbrev Ai (n d x y:Nat):PO:=⟨some d,.cK n (.t x) (.t y),none⟩
abbrev Al (d x:Nat):PO:=⟨some d,.ld false 1 (.t x),none⟩
abbrev aC (n d x:Nat):PO:=⟨some d,.ld true n (.t x),none⟩
abbrev Af (d x o:Nat):PO:=⟨some d,.ah (.t x) o,none⟩
abbrev An (d x:Nat):PO:=⟨some d,.DQ (.t x),none⟩
abbrev Ax (d x k:Nat):PO:=⟨some d,.ext (.t x) k,none⟩
abbrev Az (d x:Nat):PO:=⟨some d,.len (.t x),none⟩
abbrev At (d x:Nat):PO:=⟨some d,.un .not (.t x),none⟩
abbrev bc (f d x:Nat):PO:=⟨some d,.call f [] [.t x],none⟩
abbrev aV (f d x y:Nat):PO:=⟨some d,.call f [] [.t x,.t y],none⟩
abbrev kp (f d x y z:Nat):PO:=⟨some d,.call f [] [.t x,.t y,.t z],none⟩
abbrev As (n x y:Nat):PO:=⟨none,.st n (.t x) (.t y),none⟩
abbrev Ao (d:Nat) (op:bP):PO:=⟨some d,op,none⟩
abbrev Ag (d:Nat) (op:bP) (t:Nat):PO:=⟨some d,op,some (t,true)⟩
abbrev Ah (d:Nat) (op:bP) (t:Nat):PO:=⟨some d,op,some (t,false)⟩
abbrev Ar (l:List Nat) (ops:List PO):PC:=.ff l [] ops none
abbrev Aq (l:List Nat) (ops:List PO):PC:=.ff l [] ops (some [])
abbrev gQ (l:List Nat) (a b:Nat) (ops:List PO):PC:=.ff l [(a,b)] ops none
abbrev At1 (x:Nat) (a:PC):PC:=.cond (.t x) a .skip
abbrev Aj (x:Nat) (n:Nat):PC:=.cond (.t x) .skip (.exit n)
abbrev Av (n:Int):PX:=.c (.v false (.int .i64 n))
abbrev Aw (b:Bool):PX:=.c (.v false (.bool b))
abbrev A0:AV:=.v false (.int .i64 0)
abbrev A1:AV:=.v false (.str ⟨#[]⟩)
abbrev A2:D:=.int .i64 0
abbrev A3:D:=.str ⟨#[]⟩
abbrev Ap (d x y z:Nat):PO:=⟨some d,.pick (.t x) (.t y) (.t z),none⟩
abbrev aP (d x:Nat) (b:Bool) (z:Nat):PO:=⟨some d,.pick (.t x) (.c (.v false (.bool b))) (.t z),none⟩
abbrev aY (d x y:Nat) (b:Bool):PO:=⟨some d,.pick (.t x) (.t y) (.c (.v false (.bool b))),none⟩
abbrev Qs (l:List Nat) (o:List PO) (c:PC):PC:=.seq (.ff l [] o none) c
abbrev Qt (l:List Nat) (o:List PO):PC:=.seq (.ff l [] o none) .ret
abbrev Qi (l:List Nat) (o:List PO) (x:Nat) (a c:PC):PC:=.seq (.seq (.ff l [] o none) (.cond (.t x) a .skip)) c
abbrev Qj (l:List Nat) (o:List PO) (x n:Nat) (c:PC):PC:=.seq (.seq (.ff l [] o none) (.cond (.t x) .skip (.exit n))) c
abbrev Qn (l:List Nat) (p q:Nat) (o:List PO) (c:PC):PC:=.seq (.ff l [(p,q)] o none) c
abbrev Qq (a b:PC):PC:=.seq a b
abbrev Qc (x:Nat) (a:PC):PC:=.cond (.t x) a .skip
abbrev Qd (x:Nat) (a b:PC):PC:=.cond (.t x) a b
abbrev Qb (n:Nat) (a:PC):PC:=.uE n a
abbrev Ql (n:Nat) (a:PC):PC:=.uE n (.loop a)
abbrev Qx (d n x:Nat):PO:=⟨some d,.box n (.t x),none⟩
attribute [simp] uk pd wc um xU qS BA AV.isVal mH.eq_1 ae6 kE gu wanted bP.reads bP.CQ bP.lM xw sZ AV.refs AV.ea
section
class kA (P:Prop) (R:outParam Prop):Prop where
 imp:R→P
section
variable {Γ:Env} {Q:Out→Prop} {L:AL} {F:PF} {xs:List V}
instance {a b:PC}:kA (Wp Γ (.seq a b) Q L) (Wp Γ a (wH Γ b Q) L):=⟨wp_seq⟩
instance {id:Nat} {c:PC}:kA (Wp Γ (.uE id c) Q L) (Wp Γ c (rK id Q) L):=⟨uq⟩
instance:kA (Wp Γ .skip Q L) (Q (.norm L)):=⟨wp_skip⟩
instance {id:Nat}:kA (Wp Γ (.exit id) Q L) (Q (.exit id L)):=⟨wp_exit⟩
instance:kA (Wp Γ .ret Q L) (Q (.ret L)):=⟨wp_ret⟩
instance {b:PC}:kA (wH Γ b Q (.norm L)) (Wp Γ b Q L):=⟨ud⟩
instance {b:PC}:kA (wH Γ b Q (.ret L)) (Q (.ret L)):=⟨ue⟩
instance {b:PC} {i:Nat}:kA (wH Γ b Q (.exit i L)) (Q (.exit i L)):=⟨uc⟩
instance {id:Nat}:kA (rK id Q (.norm L)) (Q (.norm L)):=⟨sP⟩
instance {id:Nat}:kA (rK id Q (.ret L)) (Q (.ret L)):=⟨sQ⟩
instance {id:Nat}:kA (rK id Q (.exit id L)) (Q (.norm L)):=⟨sO⟩
instance {σ:Type} {I:σ→AL} {p:σ→Prop} {m:σ→Nat} {n:Nat}:kA (AD I p m n Q (.norm L)) (∃s',L=I s'∧p s'∧m s'<n):=⟨tQ⟩
instance {σ:Type} {I:σ→AL} {p:σ→Prop} {m:σ→Nat} {n i:Nat}:kA (AD I p m n Q (.exit i L)) (Q (.exit i L)):=⟨tP⟩
instance {σ:Type} {I:σ→AL} {p:σ→Prop} {m:σ→Nat} {n:Nat}:kA (AD I p m n Q (.ret L)) (Q (.ret L)):=⟨tR⟩
instance {y}:kA (yp F xs y (.ret L)) (finish F xs L=some y):=⟨tg⟩
instance {y}:kA (yp F xs y (.norm L)) (finish F xs L=some y):=⟨tf⟩
instance {Φ}:kA (CT F xs Φ (.ret L)) (∃y,finish F xs L=some y∧Φ y):=⟨tc⟩
instance {Φ}:kA (CT F xs Φ (.norm L)) (∃y,finish F xs L=some y∧Φ y):=⟨ta⟩
instance {Φ}:kA (CU F xs Φ (.ret L)) (∃n,finish F xs L=some (vi n,[])∧Φ n):=⟨te⟩
instance {Φ}:kA (CU F xs Φ (.norm L)) (∃n,finish F xs L=some (vi n,[])∧Φ n):=⟨td⟩
theorem Zs {P R:Prop} [s:kA P R] (h:R):P:=s.imp h
theorem We {x:PX} {a b:PC} {t:Bool} (h:(L.st.ev x).asBool=some t) (h1:t=true→Wp Γ a Q L) (h2:t=false→Wp Γ b Q L):Wp Γ (.cond x a b) Q L:=wp_cond h h1 h2
end
section
variable {Γ:Env} {Q:Out→Prop} {L:AL}
instance {a b:PC}:kA (Wp Γ (cond true a b) Q L) (Wp Γ a Q L):=⟨fun h=>h⟩
instance {a b:PC}:kA (Wp Γ (cond false a b) Q L) (Wp Γ b Q L):=⟨fun h=>h⟩
theorem Xb {x:PX} {a b:PC} {t:Bool} (h1:(L.st.ev x).asBool=some t) (h:Wp Γ (cond t a b) Q L):Wp Γ (.cond x a b) Q L:=wp_cond h1 (fun e=>by subst e;exact h) (fun e=>by subst e;exact h)
theorem Xt {x:PX} {a b:PC} (h1:(L.st.ev x).asBool=some true) (h:Wp Γ a Q L):Wp Γ (.cond x a b) Q L:=wp_cond h1 (fun _=>h) (fun e=>by cases e)
theorem Xf {x:PX} {a b:PC} (h1:(L.st.ev x).asBool=some false) (h:Wp Γ b Q L):Wp Γ (.cond x a b) Q L:=wp_cond h1 (fun e=>by cases e) (fun _=>h)
theorem Xk {live aQ ops draw} (h:∀K:Out→Prop,(∀o,Q o→K o)→t_ K (my Γ live aQ ops draw L)):Wp Γ (.ff live aQ ops draw) Q L:=ur h
end
theorem Wi (n:Int) (h1:-9223372036854775808≤n:=by omega) (h2:n≤9223372036854775807:=by omega):IntKind.wrap .i64 n=n:=wrap_i64 h1 h2
theorem Ga {T:Nat→Option PF} {f:Nat} {xs:List V} {y} (F:PF) (b:PC) (h:Wp (Gw T) b (yp F xs y) (f_ 0 xs)) (hT:T f=some F:=by rfl)
 (hc:(xs.all V.sN&&F.io.all (fun i=>((f_ 0 xs).get i).2.isSome))=true:=by rfl) (hb:F.body=b:=by rfl):Gw T f xs=some y:=by
 subst hb;exact oD hT hc h
theorem J2 {A B:Prop} (a:A) (b:B):A∧B:=⟨a,b⟩
theorem J3 {A B C:Prop} (a:A) (b:B) (c:C):A∧B∧C:=⟨a,b,c⟩
theorem J4 {A B C D:Prop} (a:A) (b:B) (c:C) (d:D):A∧B∧C∧D:=⟨a,b,c,d⟩
theorem J5 {A B C D E:Prop} (a:A) (b:B) (c:C) (d:D) (e:E):A∧B∧C∧D∧E:=⟨a,b,c,d,e⟩
theorem J6 {A B C D E F:Prop} (a:A) (b:B) (c:C) (d:D) (e:E) (f:F):A∧B∧C∧D∧E∧F:=⟨a,b,c,d,e,f⟩
theorem J7 {A B C D E F H:Prop} (a:A) (b:B) (c:C) (d:D) (e:E) (f:F) (h:H):A∧B∧C∧D∧E∧F∧H:=⟨a,b,c,d,e,f,h⟩
theorem J8 {A B C D E F H I:Prop} (a:A) (b:B) (c:C) (d:D) (e:E) (f:F) (h:H) (i:I):A∧B∧C∧D∧E∧F∧H∧I:=⟨a,b,c,d,e,f,h,i⟩
theorem ua {n:Nat} {a:List D}:zi (n+1) a=a::zi n a:=rfl
theorem Oo:True:=trivial
structure jS (A:Prop):Prop where
 out:A
theorem Ua {F G A B C D E:Prop} (f:F:=by exact trivial) (a:A:=by exact trivial) (b:B:=by exact trivial) (c:C:=by exact trivial) (d:D:=by exact trivial) (e:E:=by exact trivial) (h:F→jS A→jS B→jS C→jS D→jS E→G:=by
 intro f a b c d e
 repeat' first|refine Zs ?_|(refine Xk fun K k=>?_;simp [f];refine k _ ?_;clear k K)|refine Xb rfl ?_
 all_goals first|exact a.out|exact b.out|exact c.out|exact d.out|exact e.out):G:=h f ⟨a⟩ ⟨b⟩ ⟨c⟩ ⟨d⟩ ⟨e⟩
theorem Uw {F G A B C D E:Prop} (f:F:=by exact trivial) (a:A:=by exact trivial) (b:B:=by exact trivial) (c:C:=by exact trivial) (d:D:=by exact trivial) (e:E:=by exact trivial) (h:F→jS A→jS B→jS C→jS D→jS E→G:=by
 intro f a b c d e
 repeat' first|refine Zs ?_|(refine Xk fun K k=>?_;simp [f];refine k _ ?_;clear k K)|refine Xt rfl ?_|refine Xf rfl ?_|(refine We rfl ?_ ?_<;>intro h9<;>(try simp at h9)<;>first|(exfalso;omega)|skip)
 all_goals (repeat revert h9)
 all_goals first|exact a.out|exact b.out|exact c.out|exact d.out|exact e.out):G:=h f ⟨a⟩ ⟨b⟩ ⟨c⟩ ⟨d⟩ ⟨e⟩
theorem Up {F G A B C D E:Prop} (f:F:=by exact trivial) (a:A:=by exact trivial) (b:B:=by exact trivial) (c:C:=by exact trivial) (d:D:=by exact trivial) (e:E:=by exact trivial) (h:F→jS A→jS B→jS C→jS D→jS E→G:=by
 intro f a b c d e
 repeat' first|refine Zs ?_|(refine Xk fun K k=>?_;simp [f];(repeat' first|refine k _ ?_|(refine fq ?_ ?_<;>intro h9<;>first|(exfalso;omega)|(try simp [h9,f])));all_goals clear k K)|refine Xb rfl ?_
 all_goals (repeat revert h9)
 all_goals first|exact a.out|exact b.out|exact c.out|exact d.out|exact e.out):G:=h f ⟨a⟩ ⟨b⟩ ⟨c⟩ ⟨d⟩ ⟨e⟩
theorem Uc {F G A B C D E:Prop} (f:F:=by exact trivial) (a:A:=by exact trivial) (b:B:=by exact trivial) (c:C:=by exact trivial) (d:D:=by exact trivial) (e:E:=by exact trivial) (h:F→jS A→jS B→jS C→jS D→jS E→G:=by
 intro f a b c d e
 repeat' first|refine Zs ?_|(refine Xk fun K k=>?_;simp [f];(repeat' first|refine k _ ?_|(refine fq ?_ ?_<;>intro h9<;>first|(exfalso;omega)|(try simp [h9,f])));all_goals clear k K)|refine Xt rfl ?_|refine Xf rfl ?_|(refine We rfl ?_ ?_<;>intro h9<;>(try simp at h9)<;>first|(exfalso;omega)|skip)
 all_goals (repeat revert h9)
 all_goals first|exact a.out|exact b.out|exact c.out|exact d.out|exact e.out):G:=h f ⟨a⟩ ⟨b⟩ ⟨c⟩ ⟨d⟩ ⟨e⟩
theorem Ud {F G A B C D E:Prop} (f:F:=by exact trivial) (a:A:=by exact trivial) (b:B:=by exact trivial) (c:C:=by exact trivial) (d:D:=by exact trivial) (e:E:=by exact trivial) (h:F→jS A→jS B→jS C→jS D→jS E→G:=by
 intro f a b c d e
 repeat' first|refine Zs ?_|((with_reducible refine Xk fun K k=>?_);simp [f];(repeat' (with_reducible first|refine k _ ?_|(refine fq ?_ ?_<;>(intro h9;(try rw [Decidable.not_not] at h9);first|(exfalso;omega)|(try simp [h9,f])))));all_goals clear k K)|refine Xt rfl ?_|refine Xf rfl ?_|(refine We rfl ?_ ?_<;>intro h9<;>(try simp at h9)<;>first|(exfalso;omega)|skip)
 all_goals (repeat revert h9)
 all_goals first|exact a.out|exact b.out|exact c.out|exact d.out|exact e.out):G:=h f ⟨a⟩ ⟨b⟩ ⟨c⟩ ⟨d⟩ ⟨e⟩
end
section
set_option linter.unusedVariables false
@[simp] def ei (n:Int):List D:=[di n]
@[simp] def eb (n:Int):List D:=[.int .u8 n]
structure ab where
 Ty:Int
 N:Int
 S:ByteArray
 deriving Inhabited
@[simp] def ab.e (x:ab):List D:=[di x.Ty,di x.N,.str x.S]
def ab.ok (x:ab):Prop:=(-9223372036854775808≤x.Ty∧x.Ty≤9223372036854775807)∧(-9223372036854775808≤x.N∧x.N≤9223372036854775807)∧x.S.size≤9223372036854775807
def ab.dx (l:List ab):Prop:=∀y∈l,ab.ok y
def ab.sm (x:ab):Prop:=x.S.size≤1048576
def ab.aJ (l:List ab):Prop:=∀y∈l,ab.sm y
structure aA where
 Id:Int
 L:List ab
 deriving Inhabited
@[simp] def aA.e (x:aA):List D:=[di x.Id,.sl 3 (x.L.map ab.e)]
def aA.ok (x:aA):Prop:=(-9223372036854775808≤x.Id∧x.Id≤9223372036854775807)∧x.L.length≤9223372036854775807∧ab.dx x.L
def aA.dx (l:List aA):Prop:=∀y∈l,aA.ok y
def aA.sm (x:aA):Prop:=x.L.length≤1048576∧ab.aJ x.L
def aA.aJ (l:List aA):Prop:=∀y∈l,aA.sm y
structure cD where
 dW:Int
 fW:Int
 At:Int
 deriving Inhabited
@[simp] def cD.e (x:cD):List D:=[di x.dW,di x.fW,di x.At]
structure aL where
 dW:Int
 fW:Int
 Kind:Int
 iz:Int
 ek:Int
 deriving Inhabited
@[simp] def aL.e (x:aL):List D:=[di x.dW,di x.fW,di x.Kind,di x.iz,di x.ek]
def aL.ok (x:aL):Prop:=(-9223372036854775808≤x.dW∧x.dW≤9223372036854775807)∧(-9223372036854775808≤x.fW∧x.fW≤9223372036854775807)∧(-9223372036854775808≤x.Kind∧x.Kind≤9223372036854775807)∧(-9223372036854775808≤x.iz∧x.iz≤9223372036854775807)∧(-9223372036854775808≤x.ek∧x.ek≤9223372036854775807)
def aL.dx (l:List aL):Prop:=∀y∈l,aL.ok y
structure rE where
 uC:Int
 L:List aL
 deriving Inhabited
@[simp] def rE.e (x:rE):List D:=[di x.uC,.sl 5 (x.L.map aL.e)]
structure bp where
 rC:Int
 L:List ab
 deriving Inhabited
@[simp] def bp.e (x:bp):List D:=[di x.rC,.sl 3 (x.L.map ab.e)]
def bp.ok (x:bp):Prop:=(-9223372036854775808≤x.rC∧x.rC≤9223372036854775807)∧x.L.length≤9223372036854775807∧ab.dx x.L
def bp.dx (l:List bp):Prop:=∀y∈l,bp.ok y
def bp.sm (x:bp):Prop:=x.L.length≤1048576∧ab.aJ x.L
def bp.aJ (l:List bp):Prop:=∀y∈l,bp.sm y
structure mC where
 Next:Int
 L:List bp
 deriving Inhabited
@[simp] def mC.e (x:mC):List D:=[di x.Next,.sl 2 (x.L.map bp.e)]
def mC.ok (x:mC):Prop:=(-9223372036854775808≤x.Next∧x.Next≤9223372036854775807)∧x.L.length≤9223372036854775807∧bp.dx x.L
def mC.sm (x:mC):Prop:=x.L.length≤1048576∧bp.aJ x.L
structure aU where
 fW:Int
 Kind:Int
 C:mC
 G:List Int
 deriving Inhabited
@[simp] def aU.e (x:aU):List D:=[di x.fW,di x.Kind,di x.C.Next,.sl 2 (x.C.L.map bp.e),.sl 1 (x.G.map eb)]
def aU.ok (x:aU):Prop:=(-9223372036854775808≤x.fW∧x.fW≤9223372036854775807)∧(-9223372036854775808≤x.Kind∧x.Kind≤9223372036854775807)∧mC.ok x.C∧x.G.length≤9223372036854775807∧(∀y∈x.G,(0≤y∧y≤255))
def aU.dx (l:List aU):Prop:=∀y∈l,aU.ok y
def aU.sm (x:aU):Prop:=mC.sm x.C∧x.G.length≤1048576
def aU.aJ (l:List aU):Prop:=∀y∈l,aU.sm y
structure rD where
 Bn:List Int
 E5:Int
 E1:Int
 deriving Inhabited
@[simp] def rD.e (x:rD):List D:=[.sl 1 (x.Bn.map ei),di x.E5,di x.E1]
structure an where
 Kind:Int
 hZ:Int
 Op:Int
 V:ab
 L:List an
instance:Inhabited an:=⟨⟨0,0,0,default,[]⟩⟩
mutual
def an.e:an→List D
 |⟨k,c,o,v,l⟩=>[di k,di c,di o,di v.Ty,di v.N,.str v.S,.sl 7 (an.es l)]
def an.es:List an→List (List D)
 |[]=>[]
 |x::l=>an.e x::an.es l
end
theorem an.WH:∀l,an.es l=l.map an.e
 |[]=>rfl
 |x::l=>by simp only [an.es,List.map_cons,an.WH l]
@[simp] theorem an.aoG (x:an):x.e=[di x.Kind,di x.hZ,di x.Op,di x.V.Ty,di x.V.N,.str x.V.S,.sl 7 (x.L.map an.e)]:=by
 cases x;simp only [an.e,an.WH]
mutual
def an.ok:an→Prop
 |⟨k,c,o,v,l⟩=>(-9223372036854775808≤k∧k≤9223372036854775807)∧(-9223372036854775808≤c∧c≤9223372036854775807)∧(-9223372036854775808≤o∧o≤9223372036854775807)∧ab.ok v∧l.length≤9223372036854775807∧an.dx l
def an.dx:List an→Prop
 |[]=>True
 |x::l=>an.ok x∧an.dx l
end
theorem an.MK:∀l,an.dx l=∀y∈l,an.ok y
 |[]=>by simp [an.dx]
 |x::l=>by simp [an.dx,an.MK l]
theorem an.akg {l:List an} (h:an.dx l):∀y∈l,an.ok y:=by rw [an.MK] at h;exact h
theorem an.ok_eq (x:an):x.ok=((-9223372036854775808≤x.Kind∧x.Kind≤9223372036854775807)∧(-9223372036854775808≤x.hZ∧x.hZ≤9223372036854775807)∧(-9223372036854775808≤x.Op∧x.Op≤9223372036854775807)∧ab.ok x.V∧x.L.length≤9223372036854775807∧an.dx x.L):=by
 cases x;simp only [an.ok]
mutual
def an.sm:an→Prop
 |⟨k,c,o,v,l⟩=>ab.sm v∧l.length≤1048576∧an.aJ l
def an.aJ:List an→Prop
 |[]=>True
 |x::l=>an.sm x∧an.aJ l
end
theorem an.UL:∀l,an.aJ l=∀y∈l,an.sm y
 |[]=>by simp [an.aJ]
 |x::l=>by simp [an.aJ,an.UL l]
theorem an.su {l:List an} (h:an.aJ l):∀y∈l,an.sm y:=by rw [an.UL] at h;exact h
theorem an.iJ (x:an):x.sm=(ab.sm x.V∧x.L.length≤1048576∧an.aJ x.L):=by
 cases x;simp only [an.sm]
structure ia where
 Kind:Int
 P:an
 hZ:Int
 Out:List Int
 deriving Inhabited
@[simp] def ia.e (x:ia):List D:=[di x.Kind,di x.P.Kind,di x.P.hZ,di x.P.Op,di x.P.V.Ty,di x.P.V.N,.str x.P.V.S,.sl 7 (x.P.L.map an.e),di x.hZ,.sl 1 (x.Out.map ei)]
def ia.ok (x:ia):Prop:=(-9223372036854775808≤x.Kind∧x.Kind≤9223372036854775807)∧an.ok x.P∧(-9223372036854775808≤x.hZ∧x.hZ≤9223372036854775807)∧x.Out.length≤9223372036854775807∧(∀y∈x.Out,(-9223372036854775808≤y∧y≤9223372036854775807))
def ia.sm (x:ia):Prop:=an.sm x.P∧x.Out.length≤1048576
structure mD where
 Rows:List aA
 N:Int
 Has:Bool
 V:ab
 deriving Inhabited
@[simp] def mD.e (x:mD):List D:=[.sl 2 (x.Rows.map aA.e),di x.N,.bool x.Has,di x.V.Ty,di x.V.N,.str x.V.S]
def mD.ok (x:mD):Prop:=x.Rows.length≤9223372036854775807∧aA.dx x.Rows∧(-9223372036854775808≤x.N∧x.N≤9223372036854775807)∧ab.ok x.V
def mD.sm (x:mD):Prop:=x.Rows.length≤1048576∧aA.aJ x.Rows∧ab.sm x.V
structure bM where
 Op:Int
 Pc:Int
 H:Int
 R:List ab
 Id:Int
 Q:ia
 Ts:Int
 uC:Int
 L:List aL
 I:Int
 J:Int
 S:Int
 At:Int
 vg:Int
 Vu:Bool
 Bo:List aA
 deriving Inhabited
@[simp] def bM.e (x:bM):List D:=[di x.Op,di x.Pc,di x.H,.sl 3 (x.R.map ab.e),di x.Id,di x.Q.Kind,di x.Q.P.Kind,di x.Q.P.hZ,di x.Q.P.Op,di x.Q.P.V.Ty,di x.Q.P.V.N,.str x.Q.P.V.S,.sl 7 (x.Q.P.L.map an.e),di x.Q.hZ,.sl 1 (x.Q.Out.map ei),di x.Ts,di x.uC,.sl 5 (x.L.map aL.e),di x.I,di x.J,di x.S,di x.At,di x.vg,.bool x.Vu,.sl 2 (x.Bo.map aA.e)]
def bM.ok (x:bM):Prop:=(-9223372036854775808≤x.Op∧x.Op≤9223372036854775807)∧(-9223372036854775808≤x.Pc∧x.Pc≤9223372036854775807)∧(-9223372036854775808≤x.H∧x.H≤9223372036854775807)∧x.R.length≤9223372036854775807∧ab.dx x.R∧(-9223372036854775808≤x.Id∧x.Id≤9223372036854775807)∧ia.ok x.Q∧(-9223372036854775808≤x.Ts∧x.Ts≤9223372036854775807)∧(-9223372036854775808≤x.uC∧x.uC≤9223372036854775807)∧x.L.length≤9223372036854775807∧aL.dx x.L∧(-9223372036854775808≤x.I∧x.I≤9223372036854775807)∧(-9223372036854775808≤x.J∧x.J≤9223372036854775807)∧(-9223372036854775808≤x.S∧x.S≤9223372036854775807)∧(-9223372036854775808≤x.At∧x.At≤9223372036854775807)∧(-9223372036854775808≤x.vg∧x.vg≤9223372036854775807)∧x.Bo.length≤9223372036854775807∧aA.dx x.Bo
def bM.dx (l:List bM):Prop:=∀y∈l,bM.ok y
def bM.sm (x:bM):Prop:=x.R.length≤1048576∧ab.aJ x.R∧ia.sm x.Q∧x.L.length≤1048576∧x.Bo.length≤1048576∧aA.aJ x.Bo
def bM.aJ (l:List bM):Prop:=∀y∈l,bM.sm y
structure ca where
 Op:Int
 Task:Int
 R:List ab
 Id:Int
 Q:ia
 uA:mD
 Code:Int
 Bp:Int
 Inv:Int
 yb:Int
 wV:Int
 deriving Inhabited
@[simp] def ca.e (x:ca):List D:=[di x.Op,di x.Task,.sl 3 (x.R.map ab.e),di x.Id,di x.Q.Kind,di x.Q.P.Kind,di x.Q.P.hZ,di x.Q.P.Op,di x.Q.P.V.Ty,di x.Q.P.V.N,.str x.Q.P.V.S,.sl 7 (x.Q.P.L.map an.e),di x.Q.hZ,.sl 1 (x.Q.Out.map ei),.sl 2 (x.uA.Rows.map aA.e),di x.uA.N,.bool x.uA.Has,di x.uA.V.Ty,di x.uA.V.N,.str x.uA.V.S,di x.Code,di x.Bp,di x.Inv,di x.yb,di x.wV]
def ca.ok (x:ca):Prop:=(-9223372036854775808≤x.Op∧x.Op≤9223372036854775807)∧(-9223372036854775808≤x.Task∧x.Task≤9223372036854775807)∧x.R.length≤9223372036854775807∧ab.dx x.R∧(-9223372036854775808≤x.Id∧x.Id≤9223372036854775807)∧ia.ok x.Q∧mD.ok x.uA∧(-9223372036854775808≤x.Code∧x.Code≤9223372036854775807)∧(-9223372036854775808≤x.Bp∧x.Bp≤9223372036854775807)∧(-9223372036854775808≤x.Inv∧x.Inv≤9223372036854775807)∧(-9223372036854775808≤x.yb∧x.yb≤9223372036854775807)∧(-9223372036854775808≤x.wV∧x.wV≤9223372036854775807)
def ca.dx (l:List ca):Prop:=∀y∈l,ca.ok y
def ca.sm (x:ca):Prop:=x.R.length≤1048576∧ab.aJ x.R∧ia.sm x.Q∧mD.sm x.uA
def ca.aJ (l:List ca):Prop:=∀y∈l,ca.sm y
structure uD where
 C:rD
 Time:Int
 T:Int
 E:Int
 Dd:rE
 B:List aU
 M:List Int
 X:List cD
 P:List Int
 I6:List bM
 IU:List ca
 deriving Inhabited
@[simp] def uD.e (x:uD):List D:=[.sl 1 (x.C.Bn.map ei),di x.C.E5,di x.C.E1,di x.Time,di x.T,di x.E,di x.Dd.uC,.sl 5 (x.Dd.L.map aL.e),.sl 5 (x.B.map aU.e),.sl 1 (x.M.map ei),.sl 3 (x.X.map cD.e),.sl 1 (x.P.map ei),.sl 25 (x.I6.map bM.e),.sl 25 (x.IU.map ca.e)]
structure Vv where
 Kind:Int
 K:Int
 R:List ab
 Id:Int
 Q:ia
 deriving Inhabited
@[simp] def Vv.e (x:Vv):List D:=[di x.Kind,di x.K,.sl 3 (x.R.map ab.e),di x.Id,di x.Q.Kind,di x.Q.P.Kind,di x.Q.P.hZ,di x.Q.P.Op,di x.Q.P.V.Ty,di x.Q.P.V.N,.str x.Q.P.V.S,.sl 7 (x.Q.P.L.map an.e),di x.Q.hZ,.sl 1 (x.Q.Out.map ei)]
structure Vw where
 Bn:List Int
 L:List aA
 deriving Inhabited
@[simp] def Vw.e (x:Vw):List D:=[.sl 1 (x.Bn.map ei),.sl 2 (x.L.map aA.e)]
end
end Go.Proofs.YtohlfelngklcfaaGreat.OM
