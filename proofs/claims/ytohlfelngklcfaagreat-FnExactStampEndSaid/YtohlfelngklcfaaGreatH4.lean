/- A part of the proof. -/
import Derived.Test.YtohlfelngklcfaaGreatH0
import Derived.Test.YtohlfelngklcfaaGreatH3
set_option linter.all false
namespace Go.Proofs.YtohlfelngklcfaaGreat.OM
open List renaming replicate→za
abbrev Am (d x:Nat):PO:=⟨some d,.mv (.t x),none⟩
abbrev Ak (d:Nat) (n:Int):PO:=⟨some d,.mv (.c (.v false (.int .i64 n))),none⟩
abbrev Ac (d:Nat) (a:AV):PO:=⟨some d,.mv (.c a),none⟩
abbrev Ab (op:BinOp) (d x y:Nat):PO:=⟨some d,.bin op (.t x) (.t y),none⟩
abbrev Ae (op:BinOp) (d x:Nat) (n:Int):PO:=⟨some d,.bin op (.t x) (.c (.v false (.int .i64 n))),none⟩
abbrev Ai (n d x y:Nat):PO:=⟨some d,.mz n (.t x) (.t y),none⟩
abbrev Al (d x:Nat):PO:=⟨some d,.ld false 1 (.t x),none⟩
abbrev al (n d x:Nat):PO:=⟨some d,.ld true n (.t x),none⟩
abbrev Af (d x o:Nat):PO:=⟨some d,.iq (.t x) o,none⟩
abbrev An (d x:Nat):PO:=⟨some d,.oj (.t x),none⟩
abbrev Ax (d x k:Nat):PO:=⟨some d,.ext (.t x) k,none⟩
abbrev Az (d x:Nat):PO:=⟨some d,.len (.t x),none⟩
abbrev At (d x:Nat):PO:=⟨some d,.un .not (.t x),none⟩
abbrev aW (f d x:Nat):PO:=⟨some d,.call f [] [.t x],none⟩
abbrev aN (f d x y:Nat):PO:=⟨some d,.call f [] [.t x,.t y],none⟩
abbrev Wf (f d x y z:Nat):PO:=⟨some d,.call f [] [.t x,.t y,.t z],none⟩
abbrev As (n x y:Nat):PO:=⟨none,.st n (.t x) (.t y),none⟩
abbrev Ao (d:Nat) (op:aD):PO:=⟨some d,op,none⟩
abbrev Ag (d:Nat) (op:aD) (t:Nat):PO:=⟨some d,op,some (t,true)⟩
abbrev Ah (d:Nat) (op:aD) (t:Nat):PO:=⟨some d,op,some (t,false)⟩
abbrev Ar (l:List Nat) (ops:List PO):PC:=.dp l [] ops none
abbrev Aq (l:List Nat) (ops:List PO):PC:=.dp l [] ops (some [])
abbrev aF (l:List Nat) (a b:Nat) (ops:List PO):PC:=.dp l [(a,b)] ops none
abbrev Wg (x:Nat) (a:PC):PC:=.cond (.t x) a .skip
abbrev Aj (x:Nat) (n:Nat):PC:=.cond (.t x) .skip (.exit n)
abbrev Av (n:Int):PX:=.c (.v false (.int .i64 n))
abbrev Aw (b:Bool):PX:=.c (.v false (.bool b))
abbrev A0:AV:=.v false (.int .i64 0)
abbrev A1:AV:=.v false (.str ⟨#[]⟩)
abbrev A2:D:=.int .i64 0
abbrev A3:D:=.str ⟨#[]⟩
abbrev Ap (d x y z:Nat):PO:=⟨some d,.pick (.t x) (.t y) (.t z),none⟩
abbrev tH (d x:Nat) (b:Bool) (z:Nat):PO:=⟨some d,.pick (.t x) (.c (.v false (.bool b))) (.t z),none⟩
abbrev rG (d x y:Nat) (b:Bool):PO:=⟨some d,.pick (.t x) (.t y) (.c (.v false (.bool b))),none⟩
abbrev Qs (l:List Nat) (o:List PO) (c:PC):PC:=.seq (.dp l [] o none) c
abbrev Qt (l:List Nat) (o:List PO):PC:=.seq (.dp l [] o none) .ret
abbrev Qi (l:List Nat) (o:List PO) (x:Nat) (a c:PC):PC:=.seq (.seq (.dp l [] o none) (.cond (.t x) a .skip)) c
abbrev Qj (l:List Nat) (o:List PO) (x n:Nat) (c:PC):PC:=.seq (.seq (.dp l [] o none) (.cond (.t x) .skip (.exit n))) c
abbrev Qn (l:List Nat) (p q:Nat) (o:List PO) (c:PC):PC:=.seq (.dp l [(p,q)] o none) c
abbrev Qq (a b:PC):PC:=.seq a b
abbrev Qc (x:Nat) (a:PC):PC:=.cond (.t x) a .skip
abbrev Qd (x:Nat) (a b:PC):PC:=.cond (.t x) a b
abbrev Qb (n:Nat) (a:PC):PC:=.aA n a
abbrev Ql (n:Nat) (a:PC):PC:=.aA n (.loop a)
abbrev Qx (d n x:Nat):PO:=⟨some d,.box n (.t x),none⟩
theorem W8 {Γ:Env} {o:PO} {os:List PO} {S S':St} (h:dH Γ o S=some S'):fD Γ (o::os) S=(fq S o,dE S o)::fD Γ os S':=by
 rw [Kf,h]
attribute [simp] oB jH pZ rE rD k_ tY AV.isVal fD.eq_1 Kf fq dE wanted aD.reads aD.uS aD.gC ru mV AV.refs AV.b9
section
class fy (P:Prop) (R:outParam Prop):Prop where
 imp:R→P
section
variable {Γ:Env} {Q:Out→Prop} {L:AL} {F:PF} {xs:List V}
instance {a b:PC}:fy (Wp Γ (.seq a b) Q L) (Wp Γ a (qn Γ b Q) L):=⟨wp_seq⟩
instance {id:Nat} {c:PC}:fy (Wp Γ (.aA id c) Q L) (Wp Γ c (me id Q) L):=⟨cJ⟩
instance:fy (Wp Γ .skip Q L) (Q (.norm L)):=⟨wp_skip⟩
instance {id:Nat}:fy (Wp Γ (.exit id) Q L) (Q (.exit id L)):=⟨wp_exit⟩
instance:fy (Wp Γ .ret Q L) (Q (.ret L)):=⟨wp_ret⟩
instance {b:PC}:fy (qn Γ b Q (.norm L)) (Wp Γ b Q L):=⟨cH⟩
instance {b:PC}:fy (qn Γ b Q (.ret L)) (Q (.ret L)):=⟨cI⟩
instance {b:PC} {i:Nat}:fy (qn Γ b Q (.exit i L)) (Q (.exit i L)):=⟨cG⟩
instance {id:Nat}:fy (me id Q (.norm L)) (Q (.norm L)):=⟨cp⟩
instance {id:Nat}:fy (me id Q (.ret L)) (Q (.ret L)):=⟨cq⟩
instance {id:Nat}:fy (me id Q (.exit id L)) (Q (.norm L)):=⟨cn⟩
instance {σ:Type} {I:σ→AL} {p:σ→Prop} {m:σ→Nat} {n:Nat}:fy (sW I p m n Q (.norm L)) (∃s',L=I s'∧p s'∧m s'<n):=⟨cE⟩
instance {σ:Type} {I:σ→AL} {p:σ→Prop} {m:σ→Nat} {n i:Nat}:fy (sW I p m n Q (.exit i L)) (Q (.exit i L)):=⟨cD⟩
instance {σ:Type} {I:σ→AL} {p:σ→Prop} {m:σ→Nat} {n:Nat}:fy (sW I p m n Q (.ret L)) (Q (.ret L)):=⟨cF⟩
instance {y}:fy (tX F xs y (.ret L)) (finish F xs L=some y):=⟨cB⟩
instance {y}:fy (tX F xs y (.norm L)) (finish F xs L=some y):=⟨cA⟩
instance {Φ}:fy (uU F xs Φ (.ret L)) (∃y,finish F xs L=some y∧Φ y):=⟨cx⟩
instance {Φ}:fy (uU F xs Φ (.norm L)) (∃y,finish F xs L=some y∧Φ y):=⟨cw⟩
instance {Φ}:fy (uV F xs Φ (.ret L)) (∃n,finish F xs L=some (vi n,[])∧Φ n):=⟨cz⟩
instance {Φ}:fy (uV F xs Φ (.norm L)) (∃n,finish F xs L=some (vi n,[])∧Φ n):=⟨cy⟩
theorem Zs {P R:Prop} [s:fy P R] (h:R):P:=s.imp h
theorem We {x:PX} {a b:PC} {t:Bool} (h:(L.st.ev x).asBool=some t) (h1:t=true→Wp Γ a Q L) (h2:t=false→Wp Γ b Q L):Wp Γ (.cond x a b) Q L:=wp_cond h h1 h2
end
section
variable {Γ:Env} {Q:Out→Prop} {L:AL}
instance {a b:PC}:fy (Wp Γ (cond true a b) Q L) (Wp Γ a Q L):=⟨fun h=>h⟩
instance {a b:PC}:fy (Wp Γ (cond false a b) Q L) (Wp Γ b Q L):=⟨fun h=>h⟩
theorem Xb {x:PX} {a b:PC} {t:Bool} (h1:(L.st.ev x).asBool=some t) (h:Wp Γ (cond t a b) Q L):Wp Γ (.cond x a b) Q L:=wp_cond h1 (fun e=>by subst e;exact h) (fun e=>by subst e;exact h)
theorem Xt {x:PX} {a b:PC} (h1:(L.st.ev x).asBool=some true) (h:Wp Γ a Q L):Wp Γ (.cond x a b) Q L:=wp_cond h1 (fun _=>h) (fun e=>by cases e)
theorem Xf {x:PX} {a b:PC} (h1:(L.st.ev x).asBool=some false) (h:Wp Γ b Q L):Wp Γ (.cond x a b) Q L:=wp_cond h1 (fun e=>by cases e) (fun _=>h)
theorem Xk {live ai ops draw} (h:∀K:Out→Prop,(∀o,Q o→K o)→ov K (gU Γ live ai ops draw L)):Wp Γ (.dp live ai ops draw) Q L:=cK h
end
theorem Wi (n:Int) (h1:-9223372036854775808≤n:=by omega) (h2:n≤9223372036854775807:=by omega):IntKind.wrap .i64 n=n:=wrap_i64 h1 h2
theorem Ga {T:Nat→Option PF} {f:Nat} {xs:List V} {y} (F:PF) (b:PC) (h:Wp (Gw T) b (tX F xs y) (ep 0 xs)) (hT:T f=some F:=by rfl)
 (hc:(xs.all V.mQ&&F.io.all (fun i=>((ep 0 xs).get i).2.isSome))=true:=by rfl) (hb:F.body=b:=by rfl):Gw T f xs=some y:=by
 subst hb;exact dw hT hc h
theorem J2 {A B:Prop} (a:A) (b:B):A∧B:=⟨a,b⟩
theorem J3 {A B C:Prop} (a:A) (b:B) (c:C):A∧B∧C:=⟨a,b,c⟩
theorem J4 {A B C D:Prop} (a:A) (b:B) (c:C) (d:D):A∧B∧C∧D:=⟨a,b,c,d⟩
theorem J5 {A B C D E:Prop} (a:A) (b:B) (c:C) (d:D) (e:E):A∧B∧C∧D∧E:=⟨a,b,c,d,e⟩
theorem J6 {A B C D E F:Prop} (a:A) (b:B) (c:C) (d:D) (e:E) (f:F):A∧B∧C∧D∧E∧F:=⟨a,b,c,d,e,f⟩
theorem J7 {A B C D E F H:Prop} (a:A) (b:B) (c:C) (d:D) (e:E) (f:F) (h:H):A∧B∧C∧D∧E∧F∧H:=⟨a,b,c,d,e,f,h⟩
theorem J8 {A B C D E F H I:Prop} (a:A) (b:B) (c:C) (d:D) (e:E) (f:F) (h:H) (i:I):A∧B∧C∧D∧E∧F∧H∧I:=⟨a,b,c,d,e,f,h,i⟩
theorem oz {n:Nat} {a:List D}:za (n+1) a=a::za n a:=rfl
theorem Oo:True:=trivial
structure fe (A:Prop):Prop where
 out:A
theorem Ua {F G A B C D E:Prop} (f:F:=by exact trivial) (a:A:=by exact trivial) (b:B:=by exact trivial) (c:C:=by exact trivial) (d:D:=by exact trivial) (e:E:=by exact trivial) (h:F→fe A→fe B→fe C→fe D→fe E→G:=by
 intro f a b c d e
 repeat' first|refine Zs ?_|(refine Xk fun K k=>?_;simp [f];refine k _ ?_;clear k K)|refine Xb rfl ?_
 all_goals first|exact a.out|exact b.out|exact c.out|exact d.out|exact e.out):G:=h f ⟨a⟩ ⟨b⟩ ⟨c⟩ ⟨d⟩ ⟨e⟩
theorem Uw {F G A B C D E:Prop} (f:F:=by exact trivial) (a:A:=by exact trivial) (b:B:=by exact trivial) (c:C:=by exact trivial) (d:D:=by exact trivial) (e:E:=by exact trivial) (h:F→fe A→fe B→fe C→fe D→fe E→G:=by
 intro f a b c d e
 repeat' first|refine Zs ?_|(refine Xk fun K k=>?_;simp [f];refine k _ ?_;clear k K)|refine Xt rfl ?_|refine Xf rfl ?_|(refine We rfl ?_ ?_<;>intro h9<;>(try simp at h9)<;>first|(exfalso;omega)|skip)
 all_goals (repeat revert h9)
 all_goals first|exact a.out|exact b.out|exact c.out|exact d.out|exact e.out):G:=h f ⟨a⟩ ⟨b⟩ ⟨c⟩ ⟨d⟩ ⟨e⟩
theorem Up {F G A B C D E:Prop} (f:F:=by exact trivial) (a:A:=by exact trivial) (b:B:=by exact trivial) (c:C:=by exact trivial) (d:D:=by exact trivial) (e:E:=by exact trivial) (h:F→fe A→fe B→fe C→fe D→fe E→G:=by
 intro f a b c d e
 repeat' first|refine Zs ?_|(refine Xk fun K k=>?_;simp [f];(repeat' first|refine k _ ?_|(refine bm ?_ ?_<;>intro h9<;>first|(exfalso;omega)|(try simp [h9,f])));all_goals clear k K)|refine Xb rfl ?_
 all_goals (repeat revert h9)
 all_goals first|exact a.out|exact b.out|exact c.out|exact d.out|exact e.out):G:=h f ⟨a⟩ ⟨b⟩ ⟨c⟩ ⟨d⟩ ⟨e⟩
theorem Uc {F G A B C D E:Prop} (f:F:=by exact trivial) (a:A:=by exact trivial) (b:B:=by exact trivial) (c:C:=by exact trivial) (d:D:=by exact trivial) (e:E:=by exact trivial) (h:F→fe A→fe B→fe C→fe D→fe E→G:=by
 intro f a b c d e
 repeat' first|refine Zs ?_|(refine Xk fun K k=>?_;simp [f];(repeat' first|refine k _ ?_|(refine bm ?_ ?_<;>intro h9<;>first|(exfalso;omega)|(try simp [h9,f])));all_goals clear k K)|refine Xt rfl ?_|refine Xf rfl ?_|(refine We rfl ?_ ?_<;>intro h9<;>(try simp at h9)<;>first|(exfalso;omega)|skip)
 all_goals (repeat revert h9)
 all_goals first|exact a.out|exact b.out|exact c.out|exact d.out|exact e.out):G:=h f ⟨a⟩ ⟨b⟩ ⟨c⟩ ⟨d⟩ ⟨e⟩
theorem Ud {F G A B C D E:Prop} (f:F:=by exact trivial) (a:A:=by exact trivial) (b:B:=by exact trivial) (c:C:=by exact trivial) (d:D:=by exact trivial) (e:E:=by exact trivial) (h:F→fe A→fe B→fe C→fe D→fe E→G:=by
 intro f a b c d e
 repeat' first|refine Zs ?_|((with_reducible refine Xk fun K k=>?_);simp [f];(repeat' (with_reducible first|refine k _ ?_|(refine bm ?_ ?_<;>(intro h9;(try rw [Decidable.not_not] at h9);first|(exfalso;omega)|(try simp [h9,f])))));all_goals clear k K)|refine Xt rfl ?_|refine Xf rfl ?_|(refine We rfl ?_ ?_<;>intro h9<;>(try simp at h9)<;>first|(exfalso;omega)|skip)
 all_goals (repeat revert h9)
 all_goals first|exact a.out|exact b.out|exact c.out|exact d.out|exact e.out):G:=h f ⟨a⟩ ⟨b⟩ ⟨c⟩ ⟨d⟩ ⟨e⟩
end
section
set_option linter.unusedVariables false
@[simp] def ei (n:Int):List D:=[di n]
@[simp] def eb (n:Int):List D:=[.int .u8 n]
structure af where
 Ty:Int
 N:Int
 S:ByteArray
 deriving Inhabited
@[simp] def af.e (x:af):List D:=[di x.Ty,di x.N,.str x.S]
def af.ok (x:af):Prop:=(-9223372036854775808≤x.Ty∧x.Ty≤9223372036854775807)∧(-9223372036854775808≤x.N∧x.N≤9223372036854775807)∧x.S.size≤9223372036854775807
def af.aV (l:List af):Prop:=∀y∈l,af.ok y
def af.sm (x:af):Prop:=x.S.size≤1048576
def af.aq (l:List af):Prop:=∀y∈l,af.sm y
structure ak where
 Id:Int
 L:List af
 deriving Inhabited
@[simp] def ak.e (x:ak):List D:=[di x.Id,.sl 3 (x.L.map af.e)]
def ak.ok (x:ak):Prop:=(-9223372036854775808≤x.Id∧x.Id≤9223372036854775807)∧x.L.length≤9223372036854775807∧af.aV x.L
def ak.aV (l:List ak):Prop:=∀y∈l,ak.ok y
def ak.sm (x:ak):Prop:=x.L.length≤1048576∧af.aq x.L
def ak.aq (l:List ak):Prop:=∀y∈l,ak.sm y
structure aJ where
 rH:Int
 mK:Int
 At:Int
 deriving Inhabited
@[simp] def aJ.e (x:aJ):List D:=[di x.rH,di x.mK,di x.At]
def aJ.ok (x:aJ):Prop:=(-9223372036854775808≤x.rH∧x.rH≤9223372036854775807)∧(-9223372036854775808≤x.mK∧x.mK≤9223372036854775807)∧(-9223372036854775808≤x.At∧x.At≤9223372036854775807)
def aJ.aV (l:List aJ):Prop:=∀y∈l,aJ.ok y
def aJ.sm (x:aJ):Prop:=True
def aJ.aq (l:List aJ):Prop:=∀y∈l,aJ.sm y
structure ay where
 rH:Int
 mK:Int
 Kind:Int
 Bq:Int
 Bu:Int
 deriving Inhabited
@[simp] def ay.e (x:ay):List D:=[di x.rH,di x.mK,di x.Kind,di x.Bq,di x.Bu]
def ay.ok (x:ay):Prop:=(-9223372036854775808≤x.rH∧x.rH≤9223372036854775807)∧(-9223372036854775808≤x.mK∧x.mK≤9223372036854775807)∧(-9223372036854775808≤x.Kind∧x.Kind≤9223372036854775807)∧(-9223372036854775808≤x.Bq∧x.Bq≤9223372036854775807)∧(-9223372036854775808≤x.Bu∧x.Bu≤9223372036854775807)
def ay.aV (l:List ay):Prop:=∀y∈l,ay.ok y
def ay.sm (x:ay):Prop:=True
def ay.aq (l:List ay):Prop:=∀y∈l,ay.sm y
structure ik where
 qz:Int
 L:List ay
 deriving Inhabited
@[simp] def ik.e (x:ik):List D:=[di x.qz,.sl 5 (x.L.map ay.e)]
def ik.ok (x:ik):Prop:=(-9223372036854775808≤x.qz∧x.qz≤9223372036854775807)∧x.L.length≤9223372036854775807∧ay.aV x.L
def ik.aV (l:List ik):Prop:=∀y∈l,ik.ok y
def ik.sm (x:ik):Prop:=x.L.length≤1048576
def ik.aq (l:List ik):Prop:=∀y∈l,ik.sm y
structure aC where
 Bs:Int
 L:List af
 deriving Inhabited
@[simp] def aC.e (x:aC):List D:=[di x.Bs,.sl 3 (x.L.map af.e)]
def aC.ok (x:aC):Prop:=(-9223372036854775808≤x.Bs∧x.Bs≤9223372036854775807)∧x.L.length≤9223372036854775807∧af.aV x.L
def aC.aV (l:List aC):Prop:=∀y∈l,aC.ok y
def aC.sm (x:aC):Prop:=x.L.length≤1048576∧af.aq x.L
def aC.aq (l:List aC):Prop:=∀y∈l,aC.sm y
structure fm where
 Next:Int
 L:List aC
 deriving Inhabited
@[simp] def fm.e (x:fm):List D:=[di x.Next,.sl 2 (x.L.map aC.e)]
def fm.ok (x:fm):Prop:=(-9223372036854775808≤x.Next∧x.Next≤9223372036854775807)∧x.L.length≤9223372036854775807∧aC.aV x.L
def fm.aV (l:List fm):Prop:=∀y∈l,fm.ok y
def fm.sm (x:fm):Prop:=x.L.length≤1048576∧aC.aq x.L
def fm.aq (l:List fm):Prop:=∀y∈l,fm.sm y
structure ao where
 mK:Int
 Kind:Int
 C:fm
 G:List Int
 deriving Inhabited
@[simp] def ao.e (x:ao):List D:=[di x.mK,di x.Kind,di x.C.Next,.sl 2 (x.C.L.map aC.e),.sl 1 (x.G.map eb)]
def ao.ok (x:ao):Prop:=(-9223372036854775808≤x.mK∧x.mK≤9223372036854775807)∧(-9223372036854775808≤x.Kind∧x.Kind≤9223372036854775807)∧fm.ok x.C∧x.G.length≤9223372036854775807∧(∀y∈x.G,(0≤y∧y≤255))
def ao.aV (l:List ao):Prop:=∀y∈l,ao.ok y
def ao.sm (x:ao):Prop:=fm.sm x.C∧x.G.length≤1048576
def ao.aq (l:List ao):Prop:=∀y∈l,ao.sm y
structure ij where
 oK:List Int
 yu:Int
 yp:Int
 deriving Inhabited
@[simp] def ij.e (x:ij):List D:=[.sl 1 (x.oK.map ei),di x.yu,di x.yp]
def ij.ok (x:ij):Prop:=x.oK.length≤9223372036854775807∧(∀y∈x.oK,(-9223372036854775808≤y∧y≤9223372036854775807))∧(-9223372036854775808≤x.yu∧x.yu≤9223372036854775807)∧(-9223372036854775808≤x.yp∧x.yp≤9223372036854775807)
def ij.aV (l:List ij):Prop:=∀y∈l,ij.ok y
def ij.sm (x:ij):Prop:=x.oK.length≤1048576
def ij.aq (l:List ij):Prop:=∀y∈l,ij.sm y
structure aa where
 Kind:Int
 eU:Int
 Op:Int
 V:af
 L:List aa
instance:Inhabited aa:=⟨⟨0,0,0,default,[]⟩⟩
mutual
def aa.e:aa→List D
 |⟨k,c,o,v,l⟩=>[di k,di c,di o,di v.Ty,di v.N,.str v.S,.sl 7 (aa.es l)]
def aa.es:List aa→List (List D)
 |[]=>[]
 |x::l=>aa.e x::aa.es l
end
theorem aa.JZ:∀l,aa.es l=l.map aa.e
 |[]=>rfl
 |x::l=>by simp only [aa.es,List.map_cons,aa.JZ l]
@[simp] theorem aa.WO (x:aa):x.e=[di x.Kind,di x.eU,di x.Op,di x.V.Ty,di x.V.N,.str x.V.S,.sl 7 (x.L.map aa.e)]:=by
 cases x;simp only [aa.e,aa.JZ]
mutual
def aa.ok:aa→Prop
 |⟨k,c,o,v,l⟩=>(-9223372036854775808≤k∧k≤9223372036854775807)∧(-9223372036854775808≤c∧c≤9223372036854775807)∧(-9223372036854775808≤o∧o≤9223372036854775807)∧af.ok v∧l.length≤9223372036854775807∧aa.aV l
def aa.aV:List aa→Prop
 |[]=>True
 |x::l=>aa.ok x∧aa.aV l
end
theorem aa.DM:∀l,aa.aV l=∀y∈l,aa.ok y
 |[]=>by simp [aa.aV]
 |x::l=>by simp [aa.aV,aa.DM l]
theorem aa.LK {l:List aa} (h:aa.aV l):∀y∈l,aa.ok y:=by rw [aa.DM] at h;exact h
theorem aa.ok_eq (x:aa):x.ok=((-9223372036854775808≤x.Kind∧x.Kind≤9223372036854775807)∧(-9223372036854775808≤x.eU∧x.eU≤9223372036854775807)∧(-9223372036854775808≤x.Op∧x.Op≤9223372036854775807)∧af.ok x.V∧x.L.length≤9223372036854775807∧aa.aV x.L):=by
 cases x;simp only [aa.ok]
mutual
def aa.sm:aa→Prop
 |⟨k,c,o,v,l⟩=>af.sm v∧l.length≤1048576∧aa.aq l
def aa.aq:List aa→Prop
 |[]=>True
 |x::l=>aa.sm x∧aa.aq l
end
theorem aa.IB:∀l,aa.aq l=∀y∈l,aa.sm y
 |[]=>by simp [aa.aq]
 |x::l=>by simp [aa.aq,aa.IB l]
theorem aa.tn {l:List aa} (h:aa.aq l):∀y∈l,aa.sm y:=by rw [aa.IB] at h;exact h
theorem aa.fL (x:aa):x.sm=(af.sm x.V∧x.L.length≤1048576∧aa.aq x.L):=by
 cases x;simp only [aa.sm]
structure dC where
 Kind:Int
 P:aa
 eU:Int
 Out:List Int
 deriving Inhabited
@[simp] def dC.e (x:dC):List D:=[di x.Kind,di x.P.Kind,di x.P.eU,di x.P.Op,di x.P.V.Ty,di x.P.V.N,.str x.P.V.S,.sl 7 (x.P.L.map aa.e),di x.eU,.sl 1 (x.Out.map ei)]
def dC.ok (x:dC):Prop:=(-9223372036854775808≤x.Kind∧x.Kind≤9223372036854775807)∧aa.ok x.P∧(-9223372036854775808≤x.eU∧x.eU≤9223372036854775807)∧x.Out.length≤9223372036854775807∧(∀y∈x.Out,(-9223372036854775808≤y∧y≤9223372036854775807))
def dC.aV (l:List dC):Prop:=∀y∈l,dC.ok y
def dC.sm (x:dC):Prop:=aa.sm x.P∧x.Out.length≤1048576
def dC.aq (l:List dC):Prop:=∀y∈l,dC.sm y
structure eW where
 Rows:List ak
 N:Int
 Has:Bool
 V:af
 deriving Inhabited
@[simp] def eW.e (x:eW):List D:=[.sl 2 (x.Rows.map ak.e),di x.N,.bool x.Has,di x.V.Ty,di x.V.N,.str x.V.S]
def eW.ok (x:eW):Prop:=x.Rows.length≤9223372036854775807∧ak.aV x.Rows∧(-9223372036854775808≤x.N∧x.N≤9223372036854775807)∧af.ok x.V
def eW.aV (l:List eW):Prop:=∀y∈l,eW.ok y
def eW.sm (x:eW):Prop:=x.Rows.length≤1048576∧ak.aq x.Rows∧af.sm x.V
def eW.aq (l:List eW):Prop:=∀y∈l,eW.sm y
structure au where
 Op:Int
 Pc:Int
 H:Int
 R:List af
 Id:Int
 Q:dC
 Ts:Int
 qz:Int
 L:List ay
 I:Int
 J:Int
 S:Int
 At:Int
 Bw:Int
 I8:Bool
 uE:List ak
 deriving Inhabited
@[simp] def au.e (x:au):List D:=[di x.Op,di x.Pc,di x.H,.sl 3 (x.R.map af.e),di x.Id,di x.Q.Kind,di x.Q.P.Kind,di x.Q.P.eU,di x.Q.P.Op,di x.Q.P.V.Ty,di x.Q.P.V.N,.str x.Q.P.V.S,.sl 7 (x.Q.P.L.map aa.e),di x.Q.eU,.sl 1 (x.Q.Out.map ei),di x.Ts,di x.qz,.sl 5 (x.L.map ay.e),di x.I,di x.J,di x.S,di x.At,di x.Bw,.bool x.I8,.sl 2 (x.uE.map ak.e)]
def au.ok (x:au):Prop:=(-9223372036854775808≤x.Op∧x.Op≤9223372036854775807)∧(-9223372036854775808≤x.Pc∧x.Pc≤9223372036854775807)∧(-9223372036854775808≤x.H∧x.H≤9223372036854775807)∧x.R.length≤9223372036854775807∧af.aV x.R∧(-9223372036854775808≤x.Id∧x.Id≤9223372036854775807)∧dC.ok x.Q∧(-9223372036854775808≤x.Ts∧x.Ts≤9223372036854775807)∧(-9223372036854775808≤x.qz∧x.qz≤9223372036854775807)∧x.L.length≤9223372036854775807∧ay.aV x.L∧(-9223372036854775808≤x.I∧x.I≤9223372036854775807)∧(-9223372036854775808≤x.J∧x.J≤9223372036854775807)∧(-9223372036854775808≤x.S∧x.S≤9223372036854775807)∧(-9223372036854775808≤x.At∧x.At≤9223372036854775807)∧(-9223372036854775808≤x.Bw∧x.Bw≤9223372036854775807)∧x.uE.length≤9223372036854775807∧ak.aV x.uE
def au.aV (l:List au):Prop:=∀y∈l,au.ok y
def au.sm (x:au):Prop:=x.R.length≤1048576∧af.aq x.R∧dC.sm x.Q∧x.L.length≤1048576∧x.uE.length≤1048576∧ak.aq x.uE
def au.aq (l:List au):Prop:=∀y∈l,au.sm y
structure an where
 Op:Int
 Task:Int
 R:List af
 Id:Int
 Q:dC
 mN:eW
 Code:Int
 Bz:Int
 Inv:Int
 Bt:Int
 tI:Int
 deriving Inhabited
@[simp] def an.e (x:an):List D:=[di x.Op,di x.Task,.sl 3 (x.R.map af.e),di x.Id,di x.Q.Kind,di x.Q.P.Kind,di x.Q.P.eU,di x.Q.P.Op,di x.Q.P.V.Ty,di x.Q.P.V.N,.str x.Q.P.V.S,.sl 7 (x.Q.P.L.map aa.e),di x.Q.eU,.sl 1 (x.Q.Out.map ei),.sl 2 (x.mN.Rows.map ak.e),di x.mN.N,.bool x.mN.Has,di x.mN.V.Ty,di x.mN.V.N,.str x.mN.V.S,di x.Code,di x.Bz,di x.Inv,di x.Bt,di x.tI]
def an.ok (x:an):Prop:=(-9223372036854775808≤x.Op∧x.Op≤9223372036854775807)∧(-9223372036854775808≤x.Task∧x.Task≤9223372036854775807)∧x.R.length≤9223372036854775807∧af.aV x.R∧(-9223372036854775808≤x.Id∧x.Id≤9223372036854775807)∧dC.ok x.Q∧eW.ok x.mN∧(-9223372036854775808≤x.Code∧x.Code≤9223372036854775807)∧(-9223372036854775808≤x.Bz∧x.Bz≤9223372036854775807)∧(-9223372036854775808≤x.Inv∧x.Inv≤9223372036854775807)∧(-9223372036854775808≤x.Bt∧x.Bt≤9223372036854775807)∧(-9223372036854775808≤x.tI∧x.tI≤9223372036854775807)
def an.aV (l:List an):Prop:=∀y∈l,an.ok y
def an.sm (x:an):Prop:=x.R.length≤1048576∧af.aq x.R∧dC.sm x.Q∧eW.sm x.mN
def an.aq (l:List an):Prop:=∀y∈l,an.sm y
structure jL where
 C:ij
 Time:Int
 T:Int
 E:Int
 Dd:ik
 B:List ao
 M:List Int
 X:List aJ
 P:List Int
 uG:List au
 uD:List an
 deriving Inhabited
@[simp] def jL.e (x:jL):List D:=[.sl 1 (x.C.oK.map ei),di x.C.yu,di x.C.yp,di x.Time,di x.T,di x.E,di x.Dd.qz,.sl 5 (x.Dd.L.map ay.e),.sl 5 (x.B.map ao.e),.sl 1 (x.M.map ei),.sl 3 (x.X.map aJ.e),.sl 1 (x.P.map ei),.sl 25 (x.uG.map au.e),.sl 25 (x.uD.map an.e)]
def jL.ok (x:jL):Prop:=ij.ok x.C∧(-9223372036854775808≤x.Time∧x.Time≤9223372036854775807)∧(-9223372036854775808≤x.T∧x.T≤9223372036854775807)∧(-9223372036854775808≤x.E∧x.E≤9223372036854775807)∧ik.ok x.Dd∧x.B.length≤9223372036854775807∧ao.aV x.B∧x.M.length≤9223372036854775807∧(∀y∈x.M,(-9223372036854775808≤y∧y≤9223372036854775807))∧x.X.length≤9223372036854775807∧aJ.aV x.X∧x.P.length≤9223372036854775807∧(∀y∈x.P,(-9223372036854775808≤y∧y≤9223372036854775807))∧x.uG.length≤9223372036854775807∧au.aV x.uG∧x.uD.length≤9223372036854775807∧an.aV x.uD
def jL.aV (l:List jL):Prop:=∀y∈l,jL.ok y
def jL.sm (x:jL):Prop:=ij.sm x.C∧ik.sm x.Dd∧x.B.length≤1048576∧ao.aq x.B∧x.M.length≤1048576∧x.X.length≤1048576∧x.P.length≤1048576∧x.uG.length≤1048576∧au.aq x.uG∧x.uD.length≤1048576∧an.aq x.uD
def jL.aq (l:List jL):Prop:=∀y∈l,jL.sm y
structure ma where
 Kind:Int
 K:Int
 R:List af
 Id:Int
 Q:dC
 deriving Inhabited
@[simp] def ma.e (x:ma):List D:=[di x.Kind,di x.K,.sl 3 (x.R.map af.e),di x.Id,di x.Q.Kind,di x.Q.P.Kind,di x.Q.P.eU,di x.Q.P.Op,di x.Q.P.V.Ty,di x.Q.P.V.N,.str x.Q.P.V.S,.sl 7 (x.Q.P.L.map aa.e),di x.Q.eU,.sl 1 (x.Q.Out.map ei)]
def ma.ok (x:ma):Prop:=(-9223372036854775808≤x.Kind∧x.Kind≤9223372036854775807)∧(-9223372036854775808≤x.K∧x.K≤9223372036854775807)∧x.R.length≤9223372036854775807∧af.aV x.R∧(-9223372036854775808≤x.Id∧x.Id≤9223372036854775807)∧dC.ok x.Q
def ma.aV (l:List ma):Prop:=∀y∈l,ma.ok y
def ma.sm (x:ma):Prop:=x.R.length≤1048576∧af.aq x.R∧dC.sm x.Q
def ma.aq (l:List ma):Prop:=∀y∈l,ma.sm y
structure mc where
 oK:List Int
 L:List ak
 deriving Inhabited
@[simp] def mc.e (x:mc):List D:=[.sl 1 (x.oK.map ei),.sl 2 (x.L.map ak.e)]
def mc.ok (x:mc):Prop:=x.oK.length≤9223372036854775807∧(∀y∈x.oK,(-9223372036854775808≤y∧y≤9223372036854775807))∧x.L.length≤9223372036854775807∧ak.aV x.L
def mc.aV (l:List mc):Prop:=∀y∈l,mc.ok y
def mc.sm (x:mc):Prop:=x.oK.length≤1048576∧x.L.length≤1048576∧ak.aq x.L
def mc.aq (l:List mc):Prop:=∀y∈l,mc.sm y
end
end Go.Proofs.YtohlfelngklcfaaGreat.OM
