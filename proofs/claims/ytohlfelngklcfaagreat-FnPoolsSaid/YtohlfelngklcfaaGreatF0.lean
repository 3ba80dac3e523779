/- A part of the proof. -/
import Derived.Calls
import Derived.Orders
import Derived.Laws.Sem
import Derived.Laws.Cells
import Derived.Laws.Append
import Derived.Laws.AppendOwn
import Derived.Laws.MakeOwn
import Derived.Laws.CopyRow
import Derived.Laws.Entries
import Derived.Laws.StructEq
import Derived.Laws.BytesArg
import Derived.Laws.BytesString
set_option linter.all false
namespace Go.Proofs.YtohlfelngklcfaaGreat.OM
open Bool renaming and_eq_true→za,false_eq_true→zD
open Option renaming map_eq_some_iff→zb,isSome_iff_exists→zr,map_some→zL
open List renaming getElem?_take_of_lt→zd,getElem?_map→ze,getElem?_set_self→zf,getElem?_take→zg,getElem?_drop→zh,append_assoc→zi,getElem?_set_ne→zj,mem_of_mem_take→zo,getElem?_range→zp,getElem?_eq_getElem→zt,mem_of_mem_drop→zy,eq_nil_of_length_eq_zero→zz,prefix_append_right_inj→zA,getElem?_append_right→zF,getElem?_append_left→zI,length_take→zJ,append_nil→zK,replicate→zM,getElem?_eq_none→zN,length_append→zP,size_toArray→zR,mem_append→zS,length_nil→zU,take_nil→zV,map_nil→zX
open Go renaming binOp→zk
open Nat renaming le_refl→zm,mul_le_mul_right→zn,add_mul→zw,lt_or_ge→zx,lt_of_lt_of_le→zC,add_assoc→zW
open BitVec renaming ofInt→zq
open _root_.Array renaming getElem?_eq_none→zu,getD_eq_getD_getElem?→zB,getElem?_append_left→zG,getElem?_toList→zO,append_assoc→zQ
open Option.some renaming injEq→zH,inj→zT
open UInt8 renaming ofNat→zY
section
inductive D where
 |int (k:IntKind) (n:Int)
 |bool (b:Bool)
 |str (s:ByteArray)
 |sl (sz:Nat) (es:List (List D))
 |dead
 |fn (g:Nat) (ds:List D)
 |rp (ds:List D)
 deriving Inhabited
abbrev aY:=List (Nat×Nat)
inductive C where
 |ro (k:Bool) (d:D)
 |own (d:D)
 |rf (r j:Nat)
 deriving Inhabited
inductive Rt where
 |an (cs:List C)
 |bx (cs:List C)
 deriving Inhabited
inductive AV where
 |v (k:Bool) (d:D)
 |nl (sz:Nat)
 |agg (cs:List AV)
 |a_ (cs:List AV)
 |pl (r j:Nat) (p:aY)
 |rg (r j:Nat) (p:aY) (sz lo hi:Nat)
 |bx (r j:Nat)
 |ad (r j:Nat) (p:aY) (sz i c:Nat)
 |ra (k:Bool) (sz:Nat) (es:List (List D)) (i c:Nat)
 |fv (f r:Nat)
 |un
 deriving Inhabited
inductive V where
 |one (c:C)
 |st (cs:List C)
 |ptr (cs:List C)
 |a_ (vs:List V)
 deriving Inhabited
def D.bF:D→Bool
 |.int ..|.bool _|.str _=>true
 |_=>false
def D.live:D→Bool
 |.dead=>false
 |_=>true
def D.fO:D→aY→Option D
 |d,[]=>some d
 |.sl _ es,(i,j)::p=>
  match es[i]? with
  |some e=>match e[j]? with
   |some d=>d.fO p
   |none=>none
  |none=>none
 |_,_::_=>none
def D.put:D→aY→D→D
 |_,[],x=>x
 |.sl sz es,(i,j)::p,x=>
  match es[i]? with
  |some e=>match e[j]? with
   |some d=>.sl sz (es.set i (e.set j (d.put p x)))
   |none=>.sl sz es
  |none=>.sl sz es
 |d,_::_,_=>d
def Rt.cells:Rt→List C
 |.an cs|.bx cs=>cs
def Rt.gG:Rt→Nat→C→Rt
 |.an cs,j,c=>.an (cs.set j c)
 |.bx cs,j,c=>.bx (cs.set j c)
def Rt.rI:Rt→Bool
 |.an _=>true
 |.bx _=>false
abbrev Mem:=Option Rt×List (Nat×aY)
abbrev Ms:=Nat→Mem
def az {α:Type} (f:Nat→α) (n:Nat) (x:α):Nat→α:=fun k=>if k=n then x else f k
def jM:aY→aY→Bool
 |[],_=>true
 |(_,c)::k,(_,c')::p=>c==c'&&jM k p
 |_::_,[]=>false
def Ms.b_ (m:Ms) (r j:Nat) (p:aY):Bool:=(m r).2.any fun x=>x.1==j&&jM x.2 p
def Ms.cell (m:Ms) (r j:Nat):Option C:=
 match (m r).1 with
 |some rt=>rt.cells[j]?
 |none=>none
def Ms.at (m:Ms) (r j:Nat) (p:aY):Option D:=
 if m.b_ r j p then none else
 match m.cell r j with
 |some (.own d)=>d.fO p
 |_=>none
def Ms.putAt (m:Ms) (r j:Nat) (p:aY) (x:D) (kl:List (Nat×aY)):Option Ms:=
 match (m r).1 with
 |some rt=>match rt.cells[j]? with
  |some (.own d)=>some (az m r (some (rt.gG j (.own (d.put p x))),kl++(m r).2))
  |_=>none
 |none=>none
def Ms.take (m:Ms) (r j:Nat) (p:aY):Option (D×Ms):=
 match m.at r j p with
 |some (.sl sz es)=>match m.putAt r j p .dead [] with
  |some m'=>some (.sl sz es,m')
  |none=>none
 |_=>none
def o_ (k:Bool) (d:D):AV:=
 match d with
 |.sl sz es=>.v k (.sl sz es)
 |.fn g ds=>.v k (.fn g ds)
 |.rp ds=>.v k (.rp ds)
 |d=>.v false d
def ou (r j:Nat) (p:aY) (d:D):AV:=
 match d with
 |.sl _ _=>.pl r j p
 |.dead=>.un
 |d=>.v false d
def iI (r j:Nat) (c:C):AV:=
 match c with
 |.ro k d=>o_ k d
 |.own d=>ou r j [] d
 |.rf r' j'=>.pl r' j' []
def AV.cells:AV→List AV
 |.agg cs=>cs
 |a=>[a]
def qS (d:Option D) (sz lo hi:Nat):Option (List (List D)):=
 match d with
 |some (.sl ec es)=>if ec=sz∧lo≤hi∧hi≤es.length then some ((es.take hi).drop lo) else none
 |_=>none
def cut (es:List (List D)) (lo hi:Nat):List (List D):=(es.take hi).drop lo
def eH (m:Ms):AV→Option (C×Ms)
 |.v _ .dead=>none
 |.v k d=>some (.ro k d,m)
 |.nl sz=>some (.own (.sl sz []),m)
 |.pl r j p=>match m.take r j p with
  |some (d,m')=>some (.own d,m')
  |none=>none
 |.rg r j p sz 0 hi=>match qS (m.at r j p) sz 0 hi,m.take r j p with
  |some es,some (_,m')=>some (.own (.sl sz es),m')
  |_,_=>none
 |_=>none
def fm (m:Ms):List AV→Option (List C×Ms)
 |[]=>some ([],m)
 |a::as=>match eH m a with
  |some (c,m')=>match fm m' as with
   |some (cs,nR)=>some (c::cs,nR)
   |none=>none
  |none=>none
def C.nr:C→Option D
 |.ro _ d=>if d.bF then some d else none
 |.own d=>some d
 |.rf ..=>none
def pD:List C→Option (List D)
 |[]=>some []
 |c::cs=>match c.nr with
  |some d=>match pD cs with
   |some ds=>some (d::ds)
   |none=>none
  |none=>none
def l7 (m:Ms):AV→Option C
 |.v _ .dead=>none
 |.v k d=>some (.ro k d)
 |.nl sz=>some (.own (.sl sz []))
 |.pl r j []=>match (m r).1 with
  |some (.an _)=>if m.b_ r j [] then none else some (.rf r j)
  |_=>none
 |_=>none
def iq (m:Ms):List AV→Option (List C)
 |[]=>some []
 |a::as=>match l7 m a with
  |some c=>match iq m as with
   |some cs=>some (c::cs)
   |none=>none
  |none=>none
def Ms.fq (m:Ms):AV→Option (Nat×List (List D))
 |.v _ (.sl sz es)=>some (sz,es)
 |.nl sz=>some (sz,[])
 |.pl r j p=>match m.at r j p with
  |some (.sl sz es)=>some (sz,es)
  |_=>none
 |.rg r j p sz lo hi=>match qS (m.at r j p) sz lo hi with
  |some es=>some (sz,es)
  |none=>none
 |_=>none
def AV.asInt:AV→Option Int
 |.v _ (.int _ n)=>some n
 |_=>none
def AV.asBool:AV→Option Bool
 |.v _ (.bool b)=>some b
 |_=>none
def iL {α:Type} (l:List α) (c:Nat) (xs:List α):List α:=l.take c++xs++l.drop (c+xs.length)
def C.bF:C→Bool
 |.ro _ _=>true
 |.own _=>false
 |.rf ..=>false
def jG (m:Ms) (n:Nat):AV→Option (List AV)
 |.bx r j=>match (m r).1 with
  |some (.bx cs)=>if j+n≤cs.length then some (((cs.drop j).take n).zipIdx.map fun x=>iI r (j+x.2) x.1) else none
  |_=>none
 |.ad r j p sz i c=>match m.at r j p with
  |some (.sl ec es)=>match es[i]? with
   |some e=>if c+n≤e.length∧ec=sz then some (((e.drop c).take n).zipIdx.map fun x=>ou r j (p++[(i,c+x.2)]) x.1) else none
   |none=>none
  |_=>none
 |.ra k _ es i c=>match es[i]? with
  |some e=>if c+n≤e.length then some (((e.drop c).take n).map fun x=>o_ k x) else none
  |none=>none
 |.v k (.rp ds)=>if n≤ds.length then some ((ds.take n).map fun x=>o_ k x) else none
 |_=>none
def lW (j:Nat):List C→List C→List (Nat×aY)
 |c::cs,c'::kF=>if c.bF&&c'.bF then lW (j+1) cs kF else (j,[])::lW (j+1) cs kF
 |_,_=>[]
def lu (j:Nat) (p:aY) (i c:Nat):List D→List D→List (Nat×aY)
 |d::ds,d'::qT=>if d.bF&&d'.bF then lu j p i (c+1) ds qT else (j,p++[(i,c)])::lu j p i (c+1) ds qT
 |_,_=>[]
def kU (m:Ms) (cs:List C):AV→Option Ms
 |.bx r j=>match m r with
  |(some (.bx cs0),kl)=>
   if j+cs.length≤cs0.length then
    some (az m r (some (.bx (iL cs0 j cs)),lW j (cs0.drop j) cs++kl))
   else none
  |_=>none
 |.ad r j p sz i c=>match pD cs with
  |some ds=>match m.at r j p with
   |some (.sl ec es)=>match es[i]? with
    |some e=>
     if c+ds.length≤e.length∧ec=sz then
      m.putAt r j p (.sl sz (es.set i (iL e c ds))) (lu j p i c (e.drop c) ds)
     else none
    |none=>none
   |_=>none
  |none=>none
 |_=>none
def oo (op:BinOp):D→D→Option D
 |.int k a,.int k' b=>
  match op with
  |.shl=>if b<0 then none else some (.int k (k.wrap (a*2^(min b.toNat k.bits))))
  |.shr=>if b<0 then none else some (.int k (a.fdiv (2^(min b.toNat k.bits))))
  |op=>
   if k=k' then
    match op with
    |.add=>some (.int k (k.wrap (a+b)))
    |.sub=>some (.int k (k.wrap (a-b)))
    |.mul=>some (.int k (k.wrap (a*b)))
    |.quo=>if b=0 then none else some (.int k (k.wrap (a.tdiv b)))
    |.rem=>if b=0 then none else some (.int k (a.tmod b))
    |.and=>some (.int k (k.wrap (zq k.bits a &&& zq k.bits b).toNat))
    |.or=>some (.int k (k.wrap (zq k.bits a ||| zq k.bits b).toNat))
    |.xor=>some (.int k (k.wrap (zq k.bits a ^^^ zq k.bits b).toNat))
    |.eql=>some (.bool (a==b))
    |.neq=>some (.bool (a !=b))
    |.lss=>some (.bool (a<b))
    |.leq=>some (.bool (a≤b))
    |.gtr=>some (.bool (a>b))
    |.geq=>some (.bool (a≥b))
    |_=>none
   else none
 |.str a,.str b=>
  match op with
  |.add=>if ((a.size+b.size:Nat):Int)>IntKind.i64.max then none else some (.str (a++b))
  |.eql=>some (.bool (a.toList==b.toList))
  |.neq=>some (.bool !(a.toList==b.toList))
  |.lss=>some (.bool (Op.bytesLess a.toList b.toList))
  |.leq=>some (.bool (Op.bytesLess a.toList b.toList||a.toList==b.toList))
  |.gtr=>some (.bool !(Op.bytesLess a.toList b.toList||a.toList==b.toList))
  |.geq=>some (.bool !(Op.bytesLess a.toList b.toList))
  |_=>none
 |_,_=>none
def oD:List Nat→List AV→List AV→Option Bool
 |[],[],[]=>some true
 |0::ks,.v _ (.int k a)::xs,.v _ (.int k' b)::ys=>if k=k' then (match oD ks xs ys with|some r=>some (a==b&&r)|none=>none) else none
 |1::ks,.v _ (.bool a)::xs,.v _ (.bool b)::ys=>(match oD ks xs ys with|some r=>some (a==b&&r)|none=>none)
 |2::ks,.v _ (.str a)::xs,.v _ (.str b)::ys=>(match oD ks xs ys with|some r=>some (a.toList==b.toList&&r)|none=>none)
 |_,_,_=>none
def wP (op:UnOp):D→Option D
 |.bool b=>match op with
  |.not=>some (.bool !b)
  |_=>none
 |.int k n=>match op with
  |.neg=>some (.int k (k.wrap (0-n)))
  |_=>none
 |_=>none
inductive PX where
 |t (n:Nat)
 |c (a:AV)
 deriving Inhabited
inductive aA where
 |mv (x:PX)
 |pick (c a b:PX)
 |bin (op:BinOp) (x y:PX)
 |eqs (neg:Bool) (ks:List Nat) (x y:PX)
 |pU (neg:Bool) (x y:PX)
 |un (op:UnOp) (x:PX)
 |len (x:PX)
 |lens (x:PX)
 |box (n:Nat) (x:PX)
 |alloc (cs:List AV)
 |build (z:List AV) (ps:List (Nat×Nat×PX))
 |ax (sz:Nat) (z:List D) (n:Nat) (ps:List (Nat×PX))
 |lY (sz bytes:Nat) (z:List D) (x:PX)
 |ld (agg:Bool) (n:Nat) (x:PX)
 |st (n:Nat) (x y:PX)
 |n7 (n:Nat) (x y:PX)
 |qW (x:PX) (off:Nat)
 |qn (x:PX)
 |bo (x:PX) (off:Nat)
 |cf (sz:Nat) (x i:PX)
 |eV (sz:Nat) (x:PX) (lo hi:Option PX)
 |su (x:PX) (lo hi:Option PX)
 |ext (x:PX) (k:Nat)
 |call (f:Nat) (io:List Nat) (args:List PX)
 |app (sz bytes:Nat) (x y:PX)
 |dE (k:IntKind) (x:PX)
 |kG (x:PX)
 |uB (x:PX)
 |idx (x i:PX)
 |mn (x y:PX)
 |mx (x y:PX)
 |rL (g:Nat) (x:PX)
 |lG (x:PX) (args:List PX)
 |kx (sz bytes:Nat) (x y:PX)
 |apps (x y:PX)
 |gM (f i:Nat) (args:List PX)
 |mw (sz:Nat) (z:List D) (x:PX)
 deriving Inhabited
structure PO where
 dst:Option Nat
 op:aA
 g:Option (Nat×Bool):=none
 deriving Inhabited
abbrev AL:=List (Nat×AV×Option Rt)
inductive PC where
 |ext (calls:AL→Option (List (Nat×List V×V))) (f:AL→Option AL)
 |skip
 |dz (live:List Nat) (ai:List (Nat×Nat)) (ops:List PO) (draw:Option (List (Nat×Nat)))
 |seq (a b:PC)
 |cond (x:PX) (a b:PC)
 |ah (id:Nat) (c:PC)
 |loop (c:PC)
 |exit (id:Nat)
 |ret
 deriving Inhabited
inductive PR where
 |s (n:Nat)
 |b (n size:Nat) (agg:Bool)
 deriving Inhabited
structure PF where
 res:List PR
 io:List Nat
 body:PC
 deriving Inhabited
structure St where
 av:Nat→AV
 ms:Ms
def St.ev (S:St):PX→AV
 |.t n=>S.av n
 |.c a=>a
def AL.get:AL→Nat→AV×Option Rt
 |[],_=>(.un,none)
 |(k,x)::l,n=>if n=k then x else AL.get l n
def AL.st (L:AL):St:={ av:=fun n=>(L.get n).1,ms:=fun n=>((L.get n).2,[]) }
def qA:List C→Option (List D)
 |[]=>some []
 |.ro k d::cs=>if k||d.bF then match qA cs with
  |some ds=>some (d::ds)
  |none=>none
  else none
 |_::_=>none
def o9:List C→Option (List D)
 |[]=>some []
 |.ro k d::cs=>if k||d.bF then match o9 cs with
  |some ds=>some (d::ds)
  |none=>none
  else none
 |.own d::cs=>match o9 cs with
  |some ds=>some (d::ds)
  |none=>none
 |_::_=>none
def kA (m:Ms):AV→Option C
 |.v _ .dead=>none
 |.v k d=>some (.ro k d)
 |.nl sz=>some (.ro false (.sl sz []))
 |.pl r j p=>match m.at r j p with
  |some (.sl sz es)=>some (.ro true (.sl sz es))
  |_=>none
 |.rg r j p sz lo hi=>match qS (m.at r j p) sz lo hi with
  |some es=>some (.ro true (.sl sz es))
  |none=>none
 |.fv f r=>match (m r).1 with
  |some (.bx cs)=>match qA cs with
   |some (d::ds)=>some (.ro true (.fn f (d::ds)))
   |_=>none
  |_=>none
 |.bx r 0=>match (m r).1 with
  |some (.bx cs)=>match o9 cs with
   |some (d::ds)=>some (.ro true (.rp (d::ds)))
   |_=>none
  |_=>none
 |_=>none
def kB (m:Ms):List AV→Option (List C)
 |[]=>some []
 |a::as=>match kA m a with
  |some c=>match kB m as with
   |some cs=>some (c::cs)
   |none=>none
  |none=>none
def vA (m:Ms):AV→Option C
 |.v _ .dead=>none
 |.v k d=>some (.ro k d)
 |.nl sz=>some (.ro false (.sl sz []))
 |.pl r j p=>match m.at r j p with
  |some (.sl sz es)=>some (.own (.sl sz es))
  |_=>none
 |_=>none
def vB (m:Ms):List AV→Option (List C)
 |[]=>some []
 |a::as=>match vA m a with
  |some c=>match vB m as with
   |some cs=>some (c::cs)
   |none=>none
  |none=>none
def C.bA:C→Bool
 |.rf ..=>false
 |_=>true
def jq (m:Ms) (io:Bool):AV→Option V
 |.agg cs=>match (if io then vB m cs else kB m cs) with
  |some l=>some (.st l)
  |none=>none
 |a=>match (if io then vA m a else kA m a) with
  |some c=>some (.one c)
  |none=>none
def dW (m:Ms) (io:List Nat):Nat→List AV→Option (List V)
 |_,[]=>some []
 |i,a::as=>match jq m (io.contains i) a with
  |some x=>match dW m io (i+1) as with
   |some xs=>some (x::xs)
   |none=>none
  |none=>none
def AV.vD:AV→Bool
 |.pl ..|.rg ..|.fv ..|.bx ..=>true
 |_=>false
def AV.vC:AV→Bool
 |.fv ..|.bx ..=>true
 |_=>false
def AV.kH:AV→Bool
 |.agg cs=>cs.any AV.vC
 |a=>a.vC
def AV.lent:AV→Bool
 |.agg cs=>cs.any AV.vD
 |a=>a.vD
def eD (io:List Nat):Nat→List AV→Bool
 |_,[]=>false
 |i,a::as=>(!io.contains i&&a.lent)||eD io (i+1) as
def C.bB:C→Bool
 |.ro k d=>!k||d.bF
 |.own _=>true
 |.rf ..=>false
def V.pb:V→Bool
 |.one c=>c.bB
 |.st cs|.ptr cs=>cs.all C.bB
 |_=>false
def V.bB:V→Bool
 |.a_ vs=>vs.all V.pb
 |x=>x.pb
def V.qy:V→Bool
 |.one c=>c.bA
 |.st cs=>cs.all C.bA
 |_=>false
def V.plain:V→Bool
 |.a_ vs=>vs.all V.qy
 |.ptr cs=>cs.all C.bA
 |x=>x.qy
def V.flat:V→List C
 |.one c=>[c]
 |.st cs=>cs
 |_=>[]
def lT (d n:Nat):List C→List AV
 |[]=>[]
 |c::cs=>iI d n c::lT d (n+1) cs
def oZ (d n:Nat):V→AV
 |.one c=>iI d n c
 |.st cs=>.agg (lT d n cs)
 |_=>.un
def lU (d:Nat):Nat→List V→List AV
 |_,[]=>[]
 |n,x::xs=>oZ d n x::lU d (n+x.flat.length) xs
def C.cY:C→Bool
 |.own d=>!d.bF
 |_=>false
def sC (cs:List C):Option Rt:=if cs.any C.cY then some (.an cs) else none
def imp (d:Nat):V→AV×Option Rt
 |.ptr cs=>(.bx d 0,some (.bx cs))
 |.a_ xs=>(.a_ (lU d 0 xs),sC (xs.flatMap V.flat))
 |x=>(oZ d 0 x,sC x.flat)
def o8 (j:Nat) (p:aY):Nat→List (Nat×aY)
 |0=>[]
 |n+1=>(j,p++[(0,n)])::o8 j p n
def ie (m:Ms):AV→Option (V×Ms)
 |.agg cs=>match fm m cs with
  |some (l,m')=>some (.st l,m')
  |none=>none
 |a=>match eH m a with
  |some (c,m')=>some (.one c,m')
  |none=>none
def nu (m:Ms) (c:C):AV→Option Ms
 |.pl r j p=>match c with
  |.own (.sl sz es)=>match m.at r j p with
   |some .dead=>m.putAt r j p (.sl sz es) (o8 j p sz)
   |_=>none
  |_=>none
 |.nl _=>match c with
  |.own (.sl _ [])=>some m
  |_=>none
 |_=>none
def jN (cs:List AV):Nat→Ms→List (Nat×Nat×C)→Option Ms
 |_,m,[]=>some m
 |lo,m,(i,j,c)::l=>if i=0∧lo≤j then match cs[j]? with
  |some a=>match nu m c a with
   |some m'=>jN cs (j+1) m' l
   |none=>none
  |none=>none
  else none
def fZ (es:List (List D)):Bool:=es.all fun e=>e.all D.bF
def AV.isVal:AV→Bool
 |.un|.a_ _|.v _ .dead=>false
 |_=>true
def sQ (z:List AV):List (Nat×Nat×AV)→Option (List AV)
 |[]=>some z
 |(off,n,a)::l=>if a.cells.length=n∧off+n≤z.length∧a.isVal=true then sQ (iL z off a.cells) l else none
def chunks (sz:Nat):Nat→List D→List (List D)
 |0,_=>[]
 |n+1,l=>l.take sz::chunks sz n (l.drop sz)
def mD (m:Ms) (sz:Nat) (l:List D):List (Nat×AV)→Option (List D×Ms)
 |[]=>some (l,m)
 |(off,a)::r=>match fm m a.cells with
  |some (cs,m')=>match pD cs with
   |some ds=>if ds.length=sz∧off+sz≤l.length then mD m' sz (iL l off ds) r else none
   |none=>none
  |none=>none
def C.gB:C→Bool
 |.ro ..=>true
 |_=>false
def AV.ni (m:Ms):AV→Option (Nat×List C)
 |.bx r 0=>match (m r).1 with
  |some (.bx cs)=>if cs.all C.bA then some (r,cs) else none
  |_=>none
 |_=>none
def V.tr:V→Bool
 |.ptr _=>false
 |_=>true
def n9:Nat→List (Nat×Nat×C)→Option (List C)
 |_,[]=>some []
 |n,(i,j,c)::us=>if i=0∧j=n∧c.bA=true then match n9 (n+1) us with
  |some cs=>some (c::cs)
  |none=>none
  else none
def nc (r:Nat):Nat→List (Nat×aY)
 |0=>[]
 |n+1=>(n,[])::nc r n
mutual
def AV.refs:AV→List Nat
 |.pl r _ _=>[r]
 |.rg r _ _ _ _ _=>[r]
 |.bx r _=>[r]
 |.ad r _ _ _ _ _=>[r]
 |.fv _ r=>[r]
 |.agg cs=>AV.cA cs
 |.a_ cs=>AV.cA cs
 |_=>[]
def AV.cA:List AV→List Nat
 |[]=>[]
 |a::as=>a.refs++AV.cA as
end
def sK (m:Ms) (r0:Nat) (rest:List AV) (cs bH:List C):Option Ms:=
 if cs.all C.gB&&bH.all C.gB then some (az m r0 (some (.bx bH),(m r0).2))
 else if rest.all (fun a=>!a.refs.contains r0) then some (az m r0 (some (.bx bH),nc r0 cs.length++(m r0).2)) else none
abbrev Env:=Nat→List V→Option (V×List (Nat×Nat×C))
def qC (s:ByteArray):List (List D):=s.toList.map fun b=>[.int .u8 b.toNat]
def mr:List (List D)→Option (List UInt8)
 |[]=>some []
 |[.int .u8 n]::l=>match mr l with
  |some bs=>some (zY n.toNat::bs)
  |none=>none
 |_=>none
def uv (n:Int) (eE:Nat):Option Nat:=if 0≤n∧n≤eE then some n.toNat else none
def kP (len:Nat) (ev:PX→AV) (lo hi:Option PX):Option (Nat×Nat):=
 match (match hi with|none=>some len|some x=>match (ev x).asInt with|some n=>uv n len|none=>none) with
 |some h=>match (match lo with|none=>some 0|some x=>match (ev x).asInt with|some n=>uv n h|none=>none) with
  |some l=>some (l,h)
  |none=>none
 |none=>none
def oB:AV→Option C
 |.v _ .dead=>none
 |.v k d=>some (.ro k d)
 |.nl _=>some (.ro false .dead)
 |.pl ..=>some (.ro false .dead)
 |.rg ..=>some (.ro false .dead)
 |_=>none
def mB:List AV→Option (List C)
 |[]=>some []
 |a::as=>match oB a with
  |some c=>match mB as with
   |some cs=>some (c::cs)
   |none=>none
  |none=>none
def sw (m:Ms) (cs:List C):AV→Option Ms
 |.bx r j=>kU m cs (.bx r j)
 |_=>none
def pL (k:Bool):List D→List V
 |[]=>[]
 |d::ds=>[.one (.ro k (.rp (d::ds)))]
def ay (Γ:Env) (ev:PX→AV) (d:Nat) (m:Ms):aA→Option (AV×Option Rt×Ms)
 |.mv x=>some (ev x,none,m)
 |.pick c a b=>match (ev c).asBool with
  |some t=>some (if t then ev a else ev b,none,m)
  |none=>none
 |.bin op x y=>match ev x,ev y with
  |.v _ a,.v _ b=>match oo op a b with
   |some r=>some (.v false r,none,m)
   |none=>none
  |_,_=>none
 |.eqs neg ks x y=>match ev x,ev y with
  |.agg xs,.agg ys=>match oD ks xs ys with
   |some r=>some (.v false (.bool (if neg then !r else r)),none,m)
   |none=>none
  |_,_=>none
 |.pU neg x y=>match (ev x).asBool,(ev y).asBool with
  |some a,some b=>some (.v false (.bool (if neg then !(a==b) else a==b)),none,m)
  |_,_=>none
 |.un op x=>match ev x with
  |.v _ a=>match wP op a with
   |some r=>some (.v false r,none,m)
   |none=>none
  |_=>none
 |.len x=>match m.fq (ev x) with
  |some (_,es)=>some (.v false (.int .i64 es.length),none,m)
  |none=>none
 |.lens x=>match ev x with
  |.v _ (.str s)=>some (.v false (.int .i64 s.size),none,m)
  |_=>none
 |.box n x=>match iq m (ev x).cells with
  |some cs=>if cs.length=n then some (.bx d 0,some (.bx cs),m) else none
  |none=>none
 |.alloc zs=>match iq m zs with
  |some cs=>some (.bx d 0,some (.bx cs),m)
  |none=>none
 |.build z ps=>match sQ z (ps.map fun x=>(x.1,x.2.1,ev x.2.2)) with
  |some l=>some (.agg l,none,m)
  |none=>none
 |.ax sz z n ps=>match mD m sz z (ps.map fun x=>(x.1,ev x.2)) with
  |some (l,m')=>some (.pl d 0 [],some (.an [.own (.sl sz (chunks sz n l))]),m')
  |none=>none
 |.lY sz bytes z x=>match (ev x).asInt with
  |some n=>if 0≤n∧n.toNat*bytes≤2^47 then
   some (.pl d 0 [],some (.an [.own (.sl sz (zM n.toNat z))]),m) else none
  |none=>none
 |.ld agg n x=>match jG m n (ev x) with
  |some l=>if agg then some (.agg l,none,m) else match l with
   |[a]=>some (a,none,m)
   |_=>none
  |none=>none
 |.st n x y=>match fm m (ev y).cells with
  |some (cs,m')=>if cs.length=n then match kU m' cs (ev x) with
   |some nR=>some (.un,none,nR)
   |none=>none
   else none
  |none=>none
 |.n7 n x y=>match mB (ev y).cells with
  |some cs=>if cs.length=n then match sw m cs (ev x) with
   |some nR=>some (.un,none,nR)
   |none=>none
   else none
  |none=>none
 |.qW x off=>match ev x with
  |.agg cs=>match cs[off]? with
   |some a=>some (a,none,m)
   |none=>none
  |_=>none
 |.qn x=>match ev x with
  |.bx r j=>some (.bx r j,none,m)
  |.v k (.rp (d0::ds))=>some (.v k (.rp (d0::ds)),none,m)
  |.ad r j p sz i c=>some (.ad r j p sz i c,none,m)
  |.ra k sz es i c=>some (.ra k sz es i c,none,m)
  |_=>none
 |.bo x off=>match ev x with
  |.bx r j=>some (.bx r (j+off),none,m)
  |.ad r j p sz i c=>some (.ad r j p sz i (c+off),none,m)
  |.ra k sz es i c=>some (.ra k sz es i (c+off),none,m)
  |_=>none
 |.cf sz x i=>match (ev i).asInt with
  |some n=>match ev x with
   |.v k (.sl ec es)=>if 0≤n∧n<es.length∧ec=sz then some (.ra k sz es n.toNat 0,none,m) else none
   |.pl r j p=>match m.at r j p with
    |some (.sl ec es)=>if 0≤n∧n<es.length∧ec=sz then some (.ad r j p sz n.toNat 0,none,m) else none
    |_=>none
   |.rg r j p ec lo hi=>match qS (m.at r j p) ec lo hi with
    |some es=>if 0≤n∧n<es.length∧ec=sz then some (.ad r j p sz (lo+n.toNat) 0,none,m) else none
    |none=>none
   |_=>none
  |none=>none
 |.su x lo hi=>match ev x with
  |.v _ (.str s)=>match kP s.size ev lo hi with
   |some (l,h)=>some (.v false (.str (s.extract l h)),none,m)
   |none=>none
  |_=>none
 |.eV n8 x lo hi=>match ev x with
  |.v k (.sl sz es)=>match kP es.length ev lo hi with
   |some (l,h)=>if sz=n8 then some (.v k (.sl sz (cut es l h)),none,m) else none
   |none=>none
  |.nl sz=>match kP 0 ev lo hi with
   |some _=>some (.nl sz,none,m)
   |none=>none
  |.pl r j p=>match m.at r j p with
   |some (.sl sz es)=>match kP es.length ev lo hi with
    |some (l,h)=>if sz=n8 then some (.rg r j p sz l h,none,m) else none
    |none=>none
   |_=>none
  |_=>none
 |.ext x k=>match ev x with
  |.a_ cs=>match cs[k]? with
   |some a=>some (a,none,m)
   |none=>none
  |_=>none
 |.call f io args=>match io with
  |[]=>match dW m [] 0 (args.map ev) with
   |some xs=>match Γ f xs with
    |some (r,us)=>if r.plain&&(r.bB||!(eD [] 0 (args.map ev))) then
     match us with
     |[]=>some ((imp d r).1,(imp d r).2,m)
     |_=>none
     else none
    |none=>none
   |none=>none
  |_::_=>match args.map ev with
   |[]=>none
   |a0::rest=>match a0.ni m with
    |some (r0,cs0)=>match (if rest.any AV.kH then none else dW m [] 1 rest) with
     |some xs=>match Γ f (.ptr cs0::xs) with
      |some (r,us)=>if r.plain&&r.tr&&((r.bB&&us.all fun u=>u.2.2.bB)||!(eD [] 1 rest)) then match n9 0 us with
       |some bH=>if bH.length=cs0.length∧0<cs0.length then match sK m r0 rest cs0 bH with
        |some m'=>some ((imp d r).1,(imp d r).2,m')
        |none=>none
        else none
       |none=>none
       else none
      |none=>none
     |none=>none
    |none=>match ie m a0 with
    |some (x0,m1)=>match dW m1 [] 1 rest with
     |some xs=>match Γ f (x0::xs) with
      |some (r,us)=>if r.plain&&((r.bB&&us.all fun u=>u.2.2.bB)||!(eD [] 1 rest)) then match jN a0.cells 0 m1 us with
       |some m2=>some ((imp d r).1,(imp d r).2,m2)
       |none=>none
       else none
      |none=>none
     |none=>none
    |none=>none
 |.app sz bytes x y=>match (match m.fq (ev y) with
  |some (s,ys)=>if fZ ys then some (s,ys,m) else match eH m (ev y) with
   |some (.own (.sl s1 O1),m1)=>if O1.all (fun e=>e.all D.live) then some (s1,O1,m1) else none
   |_=>none
  |none=>none) with
  |some (s1,ys,m1)=>match eH m1 (ev x) with
   |some (.own (.sl s2 es),m2)=>
    if s1=sz∧s2=sz∧(es.length+ys.length)*bytes≤2^46 then
     some (.pl d 0 [],some (.an [.own (.sl sz (es++ys))]),m2) else none
   |_=>none
  |none=>none
 |.apps x y=>match ev y with
  |.v _ (.str s)=>match eH m (ev x) with
   |some (.own (.sl 1 es),m2)=>if es.length+s.size≤2^46 then
    some (.pl d 0 [],some (.an [.own (.sl 1 (es++qC s))]),m2) else none
   |_=>none
  |_=>none
 |.kx sz bytes x y=>match m.fq (ev y) with
  |some (s1,ys)=>if fZ ys then match eH m (ev x) with
   |some (.own (.sl s2 es),m2)=>
    if s1=sz∧s2=sz∧(es.length+ys.length)*bytes≤2^46 then
     some (.pl d 0 [],some (.an [.own (.sl sz (es++ys))]),m2) else none
   |_=>none
   else none
  |none=>none
 |.dE k x=>match ev x with
  |.v _ (.int _ n)=>some (.v false (.int k (k.wrap n)),none,m)
  |_=>none
 |.kG x=>match m.fq (ev x) with
  |some (_,es)=>match mr es with
   |some bs=>some (.v false (.str ⟨bs.toArray⟩),none,m)
   |none=>none
  |none=>none
 |.uB _=>none
 |.idx x i=>match ev x,(ev i).asInt with
  |.v _ (.str s),some n=>if 0≤n then match s.toList[n.toNat]? with
   |some b=>some (.v false (.int .u8 b.toNat),none,m)
   |none=>none
   else none
  |_,_=>none
 |.mn x y=>match ev x,ev y with
  |.v _ (.int k a),.v _ (.int _ b)=>some (.v false (.int k (if b<a then b else a)),none,m)
  |_,_=>none
 |.mx x y=>match ev x,ev y with
  |.v _ (.int k a),.v _ (.int _ b)=>some (.v false (.int k (if a<b then b else a)),none,m)
  |_,_=>none
 |.rL g x=>match ev x with
  |.bx r 0=>some (.fv g r,none,m)
  |_=>none
 |.gM f i args=>match (args.map ev)[i]? with
  |some a0=>match ie m a0 with
   |some (x0,m1)=>match dW m1 [] 0 ((args.map ev).set i (.v false (.bool true))) with
    |some xs=>match Γ f (xs.set i x0) with
     |some (r,_)=>if r.plain&&(r.bB||!(eD [] 0 ((args.map ev).set i (.v false (.bool true))))) then
      some ((imp d r).1,(imp d r).2,m1)
      else none
     |none=>none
    |none=>none
   |none=>none
  |none=>none
 |.mw sz z x=>match ev x with
  |.rg r j p n8 lo hi=>match m.at r j p with
   |some (.sl wM es)=>if wM=sz∧n8=sz∧lo<hi∧hi≤es.length∧z.length=sz∧z.all D.bF=true∧fZ ((es.take hi).drop lo)=true then
    (match m.putAt r j p (.sl sz (es.take lo++zM (hi-lo) z++es.drop hi)) [] with
    |some m'=>some (.a_ [],none,m')
    |none=>none)
    else none
   |_=>none
  |_=>none
 |.lG x args=>match ev x with
  |.v k (.fn f ds)=>match dW m [] 0 (args.map ev) with
   |some xs=>match Γ f (xs++pL k ds) with
    |some (r,us)=>if r.plain&&(r.bB||!(eD [] 0 (args.map ev))) then
     match us with
     |[]=>some ((imp d r).1,(imp d r).2,m)
     |_=>none
     else none
    |none=>none
   |none=>none
  |_=>none
def gd (S:St):Option (Nat×Bool)→Option Bool
 |none=>some true
 |some (t,want)=>match S.av t with
  |.v _ (.bool b)=>some (b==want)
  |.a_ []=>some false
  |_=>none
def dP (Γ:Env) (o:PO) (S:St):Option St:=
 match gd S o.g with
 |some true=>
  match o.dst with
  |some d=>match ay Γ S.ev d S.ms o.op with
   |some (a,none,m)=>some { av:=az S.av d a,ms:=m }
   |some (a,some r,m)=>match m d with
    |(none,_)=>some { av:=az S.av d a,ms:=az m d (some r,[]) }
    |_=>none
   |none=>none
  |none=>match ay Γ S.ev 0 S.ms o.op with
   |some (_,none,m)=>some { av:=S.av,ms:=m }
   |_=>none
 |some false=>match o.dst with
  |some d=>some { S with av:=az S.av d (.a_ []) }
  |none=>some S
 |none=>none
def eU (Γ:Env):List PO→St→Option St
 |[],S=>some S
 |o::os,S=>match dP Γ o S with
  |some S'=>eU Γ os S'
  |none=>none
def eN (ai:List (Nat×Nat)) (r:Nat):Nat:=match ai with
 |[]=>r
 |(a,b)::l=>if r=a then b else eN l r
def BM (ai:List (Nat×Nat)) (n:Nat):Option Nat:=match ai with
 |[]=>none
 |(a,b)::l=>if n=b then some a else BM l n
def pC (ai:List (Nat×Nat)) (n:Nat):Nat:=match BM ai n with
 |some a=>a
 |none=>n
def fj (live:List Nat) (ai:List (Nat×Nat)) (r:Nat):Bool:=
 live.contains (eN ai r)&&pC ai (eN ai r)==r
mutual
def fu (m:Ms) (live:List Nat) (ai:List (Nat×Nat)):AV→AV
 |.pl r j p=>if (m.b_ r j p)||!(fj live ai r) then .un else .pl (eN ai r) j p
 |.rg r j p sz lo hi=>if (m.b_ r j p)||!(fj live ai r) then .un else .rg (eN ai r) j p sz lo hi
 |.bx r j=>if !(fj live ai r) then .un else .bx (eN ai r) j
 |.ad r j p sz i c=>if (m.b_ r j p)||!(fj live ai r) then .un else .ad (eN ai r) j p sz i c
 |.fv f r=>if !(fj live ai r) then .un else .fv f (eN ai r)
 |.agg cs=>.agg (k9 m live ai cs)
 |.a_ cs=>.a_ (k9 m live ai cs)
 |a=>a
def k9 (m:Ms) (live:List Nat) (ai:List (Nat×Nat)):List AV→List AV
 |[]=>[]
 |a::as=>fu m live ai a::k9 m live ai as
end
def fixC (live:List Nat) (ai:List (Nat×Nat)):C→C
 |.rf r j=>if fj live ai r then .rf (eN ai r) j else .ro false .dead
 |c=>c
def pW (live:List Nat) (ai:List (Nat×Nat)):Rt→Rt
 |.an cs=>.an (cs.map (fixC live ai))
 |.bx cs=>.bx (cs.map (fixC live ai))
def o7 (S:St) (live:List Nat) (ai:List (Nat×Nat)) (n:Nat):Option Rt:=
 if eN ai (pC ai n)=n then match (S.ms (pC ai n)).1 with
  |some rt=>some (pW live ai rt)
  |none=>none
 else none
def settle (live:List Nat) (ai:List (Nat×Nat)) (S:St):AL:=
 live.map fun n=>(n,fu S.ms live ai (S.av n),o7 S live ai n)
def aA.cd:aA→List PX
 |.mv x|.un _ x|.len x|.lens x|.box _ x|.lY _ _ _ x|.ld _ _ x|.qn x|.qW x _|.bo x _|.ext x _|.dE _ x|.kG x|.uB x|.rL _ x|.mw _ _ x=>[x]
 |.pick c a b=>[c,a,b]
 |.bin _ x y|.eqs _ _ x y|.pU _ x y|.st _ x y|.n7 _ x y|.cf _ x y|.app _ _ x y|.kx _ _ x y|.apps x y|.idx x y|.mn x y|.mx x y=>[x,y]
 |.alloc zs=>zs.map .c
 |.build _ ps=>ps.map (·.2.2)
 |.ax _ _ _ ps=>ps.map (·.2)
 |.eV _ x lo hi|.su x lo hi=>x::(lo.toList++hi.toList)
 |.call _ _ args=>args
 |.gM _ _ args=>args
 |.lG x args=>x::args
def aA.reads:aA→List PX
 |.len x|.box _ x|.ld _ _ x|.kG x|.cf _ x _|.eV _ x _ _=>[x]
 |.n7 _ x _=>[x]
 |.mw _ _ x=>[x]
 |.apps x _=>[x]
 |.st _ x y|.app _ _ x y|.kx _ _ x y=>[x,y]
 |.alloc zs=>zs.map .c
 |.ax _ _ _ ps=>ps.map (·.2)
 |.call _ _ args=>args
 |.gM _ _ args=>args
 |.lG _ args=>args
 |_=>[]
def aA.uA:aA→Bool
 |.box ..|.alloc _|.ax ..|.lY ..|.call ..|.gM ..|.lG ..|.app ..|.kx ..|.apps ..=>true
 |_=>false
def aA.gH:aA→List PX
 |.n7 _ x _=>[x]
 |.mw _ _ x=>[x]
 |.gM _ _ args=>args
 |.kx _ _ x _=>[x]
 |.apps x _=>[x]
 |.st _ x y|.app _ _ x y=>[x,y]
 |.ax _ _ _ ps=>ps.map (·.2)
 |.call _ io args=>if io=[] then [] else args
 |_=>[]
def wanted (S:St):Option (Nat×Bool)→Bool
 |none=>true
 |some (t,want)=>match S.av t with
  |.v _ (.bool b)=>b==want
  |_=>false
def fQ (S:St) (o:PO):List Nat:=if wanted S o.g then o.op.reads.flatMap fun x=>(S.ev x).refs else []
def dJ (S:St) (o:PO):List Nat:=if wanted S o.g then (if o.op.uA then o.dst.toList else [])++o.op.gH.flatMap fun x=>(S.ev x).refs else []
def f_ (Γ:Env):List PO→St→List (List Nat×List Nat)
 |[],_=>[]
 |o::os,S=>match dP Γ o S with
  |some S'=>(fQ S o,dJ S o)::f_ Γ os S'
  |none=>[]
def mA (a b:List Nat):Bool:=a.all fun x=>!b.contains x
def qo (fs:List (List Nat×List Nat)) (ps:List (Nat×Nat)):Bool:=
 ps.all fun x=>match fs[x.1]?,fs[x.2]? with
  |some (r1,w1),some (r2,w2)=>mA w1 r2&&mA w2 r1
  |_,_=>false
inductive Out where
 |fail
 |norm (L:AL)
 |exit (id:Nat) (L:AL)
 |ret (L:AL)
 deriving Inhabited
def iter (f:AL→Out):Nat→AL→Out
 |0,_=>.fail
 |n+1,L=>match f L with
  |.norm L'=>iter f n L'
  |o=>o
def ir (Γ:Env) (live:List Nat) (ai:List (Nat×Nat)) (ops:List PO) (draw:Option (List (Nat×Nat))) (L:AL):Out:=
 if (match draw with
  |none=>true
  |some ps=>ps.isEmpty||qo (f_ Γ ops L.st) ps) then
  match eU Γ ops L.st with
  |some S=>.norm (settle live ai S)
  |none=>.fail
 else .fail
def ny (Γ:Env):Option (List (Nat×List V×V))→Prop
 |some cs=>∀c∈cs,Γ c.1 c.2.1=some (c.2.2,[])
 |none=>False
open Classical in
noncomputable def bV (Γ:Env) (fuel:Nat):PC→AL→Out
 |.ext calls f,L=>if ny Γ (calls L) then (match f L with
  |some L'=>.norm L'
  |none=>.fail) else .fail
 |.skip,L=>.norm L
 |.dz live ai ops draw,L=>ir Γ live ai ops draw L
 |.seq a b,L=>match bV Γ fuel a L with
  |.norm L'=>bV Γ fuel b L'
  |o=>o
 |.cond x a b,L=>match (L.st.ev x).asBool with
  |some t=>if t then bV Γ fuel a L else bV Γ fuel b L
  |none=>.fail
 |.ah id c,L=>match bV Γ fuel c L with
  |.exit i L'=>if i=id then .norm L' else .exit i L'
  |o=>o
 |.loop c,L=>iter (bV Γ fuel c) fuel L
 |.exit id,L=>.exit id L
 |.ret,L=>.ret L
def dM:Nat→List V→AL
 |_,[]=>[]
 |i,x::xs=>(i,(imp i x).1,(imp i x).2)::dM (i+1) xs
def tX (L:AL):PR→Option AV
 |.s n=>some (L.get n).1
 |.b n size agg=>match jG L.st.ms size (L.get n).1 with
  |some l=>if agg then some (.agg l) else match l with
   |[a]=>some a
   |_=>none
  |none=>none
def pd (L:AL) (m:Ms):List PR→Option (List V×Ms)
 |[]=>some ([],m)
 |r::rs=>match tX L r with
  |some a=>match ie m a with
   |some (x,m')=>match pd L m' rs with
    |some (xs,nR)=>some (x::xs,nR)
    |none=>none
   |none=>none
  |none=>none
def nv (i:Nat):Nat→List C→List (Nat×Nat×C)
 |_,[]=>[]
 |j,c::cs=>if c.cY then (i,j,c)::nv i (j+1) cs else nv i (j+1) cs
def qF (i:Nat):Nat→List C→List (Nat×Nat×C)
 |_,[]=>[]
 |j,c::cs=>(i,j,c)::qF i (j+1) cs
def l3 (xs:List V) (m:Ms):List Nat→Option (List (Nat×Nat×C))
 |[]=>some []
 |i::is=>match (match (m i).1,xs[i]? with
  |some (.an cs),some x=>if cs.length≤x.flat.length then some (nv i 0 cs) else none
  |some (.bx cs),some (.ptr _)=>some (qF i 0 cs)
  |_,_=>none) with
  |some l=>match l3 xs m is with
   |some l2=>some (l++l2)
   |none=>none
  |none=>none
def tw (m:Ms):AV→Option (V×Ms)
 |.bx r 0=>match (m r).1 with
  |some (.bx cs)=>if cs.all C.bA then some (.ptr cs,az m r (none,[])) else none
  |_=>none
 |a=>ie m a
def rO (F:PF) (L:AL):Option (V×Ms):=
 match F.res with
 |[r]=>match tX L r with
  |some a=>tw L.st.ms a
  |none=>none
 |rs=>match pd L L.st.ms rs with
  |some (ys,m)=>some (.a_ ys,m)
  |none=>none
def finish (F:PF) (xs:List V) (L:AL):Option (V×List (Nat×Nat×C)):=
 match rO F L with
 |some (x,m)=>match l3 xs m F.io with
  |some us=>some (x,us)
  |none=>none
 |none=>none
def V.mm:V→Bool
 |.one c=>c.bA
 |.st cs|.ptr cs=>cs.all C.bA
 |.a_ _=>false
noncomputable def prun (Γ:Env) (fuel:Nat) (F:PF) (xs:List V):Option (V×List (Nat×Nat×C)):=
 if xs.all V.mm&&F.io.all (fun i=>((dM 0 xs).get i).2.isSome) then
  match bV Γ fuel F.body (dM 0 xs) with
  |.ret L|.norm L=>finish F xs L
  |_=>none
 else none
end
def yg:List D→List D→Bool
 |[.int _ t,.int _ n,.str s],[.int _ t',.int _ n',.str s']=>if t=t' then (if n=n' then Op.bytesLess s.toList s'.toList else decide (n<n')) else decide (t<t')
 |_,_=>false
def PW (x y:List D):Int:=if yg x y=true then -1 else if yg y x=true then 1 else 0
def JA:List D→Bool
 |[.int .i64 _,.int .i64 _,.str _]=>true
 |_=>false
def Jo (es:List (List D)):List (List D):=es.mergeSort fun x y=>!yg y x
def Bi:AL→Option (List (Nat×List V×V))
 |[(0,.pl 0 0 [],some (.an [.own (.sl 3 es)])),(1,.v _ (.fn g []),none)]=>
  if es.all JA=true∧es.length<4611686018427387904 then
   some (es.flatMap fun x=>es.map fun y=>(g,[.st (x.map (.ro false)),.st (y.map (.ro false))],.one (.ro false (.int .i64 (PW x y)))))
  else none
 |_=>none
def Jp:AL→Option AL
 |[(0,.pl 0 0 [],some (.an [.own (.sl 3 es)])),(1,.v k (.fn g []),none)]=>
  some [(0,.pl 0 0 [],some (.an [.own (.sl 3 (Jo es))])),(1,.v k (.fn g []),none)]
 |_=>none
def TB:List (Nat×Nat):=[(1,189),(8,134),(9,95),(10,102),(12,131),(13,54),(14,63),(15,56),(16,135),(19,184),(20,30),(21,23),(22,133),(27,141),(29,140),(38,61),(39,27),(45,107),(48,29),(52,183),(54,160),(57,17),(58,139),(59,136),(60,243),(63,161),(67,215),(68,281),(69,179),(70,178),(71,157),(72,156),(73,94),(74,230),(75,290),(76,231),(77,138),(78,216),(79,301),(81,214),(82,132),(83,101),(84,280),(85,279),(86,218),(87,55),(141,15),(142,147),(143,67),(144,222),(145,221),(146,65),(147,148),(148,69),(149,150),(150,71),(151,66),(152,68),(153,284),(154,336),(155,224),(156,220),(157,146),(158,226),(159,285),(160,225),(161,335),(162,282),(163,149),(164,70),(165,283),(166,223),(167,10),(168,85),(169,172),(171,83),(172,87),(173,89),(174,84),(175,86),(176,174),(177,170),(178,175),(179,171),(180,88),(181,173),(182,14),(183,78),(184,165),(186,76),(187,80),(188,82),(189,77),(190,79),(191,168),(192,163),(193,169),(194,164),(195,81),(196,167),(197,166),(198,13),(199,99),(209,182),(210,109),(211,33),(212,197),(213,196),(214,31),(215,35),(216,111),(217,37),(218,32),(219,34),(220,268),(221,329),(222,199),(223,108),(224,201),(225,269),(226,200),(227,328),(228,266),(229,110),(230,36),(231,267),(232,198),(233,6),(234,127),(235,49),(236,209),(237,208),(238,47),(239,128),(240,51),(241,130),(242,53),(243,48),(244,50),(245,276),(246,333),(247,211),(248,207),(249,126),(250,213),(251,277),(252,212),(253,332),(254,274),(255,129),(256,52),(257,275),(258,210),(259,8),(264,118),(265,97),(266,105),(268,112),(269,38),(270,114),(271,40),(296,119),(298,191),(300,24),(301,115),(308,121),(318,41),(319,28),(320,271),(322,204),(323,291),(333,203),(335,154),(336,295),(338,18),(339,120),(340,116),(341,256),(344,155),(347,293),(349,331),(350,330),(353,227),(355,286),(356,288),(357,240),(358,181),(359,238),(360,235),(362,96),(363,180),(368,151),(370,113),(372,202),(374,270),(375,93),(376,177),(377,39),(378,239),(379,90),(380,365),(381,366),(382,292),(383,341),(384,316),(385,342),(387,229),(390,272),(391,273),(392,206),(393,300),(394,340),(395,337),(396,338),(397,228),(398,241),(399,92),(400,287),(401,294),(402,263),(404,242),(411,2),(414,3),(416,4),(420,5),(424,219),(427,7),(428,9),(429,26),(430,25),(431,11),(432,12),(439,16),(440,19),(441,20),(442,21),(443,22),(446,117),(449,137),(450,42),(451,43),(452,44),(453,45),(454,46),(455,57),(456,58),(457,59),(458,60),(459,62),(460,64),(461,104),(462,106),(463,103),(464,72),(465,73),(466,74),(467,75),(471,91),(472,98),(473,100),(477,298),(481,254),(482,122),(483,123),(484,124),(485,125),(486,142),(487,143),(488,144),(489,145),(490,192),(491,193),(492,194),(493,195),(494,185),(495,186),(496,187),(497,188),(498,190),(499,152),(500,153),(501,158),(502,159),(503,162),(504,176),(505,373),(508,377),(511,205),(512,217),(513,257),(514,258),(515,259),(516,260),(517,261),(518,262),(519,264),(520,265),(521,244),(522,245),(523,246),(524,247),(525,248),(526,249),(527,250),(528,251),(529,252),(530,253),(531,255),(532,232),(533,233),(534,234),(535,236),(536,237),(537,278),(538,317),(539,318),(540,319),(541,320),(542,321),(543,322),(544,323),(545,324),(546,325),(547,326),(548,327),(549,302),(550,303),(551,304),(552,305),(553,306),(554,307),(555,308),(556,309),(557,310),(558,311),(559,312),(560,313),(561,314),(562,315),(563,289),(564,296),(565,297),(566,299),(567,334),(568,354),(569,355),(570,356),(571,357),(572,358),(573,359),(574,360),(575,361),(576,362),(577,363),(578,364),(579,343),(580,344),(581,345),(582,346),(583,347),(584,348),(585,349),(586,350),(587,351),(588,352),(589,353),(590,339),(591,374),(592,375),(593,367),(594,368),(595,369),(596,370),(597,371),(598,372),(599,376),(600,378),(601,379),(602,380),(603,381),(604,382),(605,383),(606,384),(607,385),(608,386),(609,387),(610,388),(611,389),(612,390),(613,391),(614,392),(1068,281)]
def fI (n:Nat):FuncId:=(TB.lookup n).getD 0
inductive cG where
 |no|iX|gn
 |own (r j:Nat) (p:aY)
 |box (r:Nat)
def cG.ck:cG→Bool
 |.own ..|.box _=>true
 |_=>false
def kc (k:Bool):cG:=if k then .gn else .iX
structure Gh where
 cl:Nat→cG
 hd:Nat→Nat→aY→Value
 bk:Nat→Nat
inductive RO (w:World) (cl:Nat→cG) (k:Bool):D→Value→Prop
 |int (kd:IntKind) (n:Int):RO w cl k (.int kd n) (.int kd n)
 |bool (b:Bool):RO w cl k (.bool b) (.bool b)
 |str (s:ByteArray):RO w cl k (.str s) (.string s)
 |dead (v:Value):RO w cl k .dead v
 |emp (sz:Nat) (a:Option Addr) (cap:Nat):RO w cl k (.sl sz []) (.slice a 0 cap)
 |sl (sz:Nat) (es:List (List D)) (b off cap:Nat):
  cl b=kc k→(∀e∈es,e.length=sz)→es.length≤cap→
  (∀i j,i<es.length→j<sz→(w.cell? ⟨b,off+i*sz+j,none⟩).isSome)→
  (∀i j e d x,es[i]?=some e→e[j]?=some d→w.cell? ⟨b,off+i*sz+j,none⟩=some x→RO w cl k d x)→
  RO w cl k (.sl sz es) (.slice (some ⟨b,off,none⟩) es.length cap)
 |fn (g:Nat):RO w cl k (.fn g []) (.func (.func (fI g)) #[] #[])
 |sR (g:Nat) (ds:List D) (b:Nat):ds≠[]→cl b=kc k→
  (∀i,i<ds.length→(w.cell? ⟨b,i,none⟩).isSome)→
  (∀i d x,ds[i]?=some d→w.cell? ⟨b,i,none⟩=some x→RO w cl k d x)→
  RO w cl k (.fn g ds) (.func (.func (fI g)) #[] #[.pointer (some ⟨b,0,none⟩)])
 |rp (ds:List D) (b:Nat):ds≠[]→cl b=kc k→
  (∀i,i<ds.length→(w.cell? ⟨b,i,none⟩).isSome)→
  (∀i d x,ds[i]?=some d→w.cell? ⟨b,i,none⟩=some x→RO w cl k d x)→
  RO w cl k (.rp ds) (.pointer (some ⟨b,0,none⟩))
inductive OW (w:World) (g:Gh) (r j:Nat):aY→D→Value→Prop
 |int (p:aY) (kd:IntKind) (n:Int):OW w g r j p (.int kd n) (.int kd n)
 |bool (p:aY) (b:Bool):OW w g r j p (.bool b) (.bool b)
 |str (p:aY) (s:ByteArray):OW w g r j p (.str s) (.string s)
 |dead (p:aY) (v:Value):g.hd r j p=v→OW w g r j p .dead v
 |nil (p:aY) (sz:Nat):g.hd r j p=.slice none 0 0→OW w g r j p (.sl sz []) (.slice none 0 0)
 |sl (p:aY) (sz:Nat) (es:List (List D)) (b off cap:Nat) (vals:Array Value) (E:TypeId):
  g.hd r j p=.slice (some ⟨b,off,none⟩) es.length cap→
  g.cl b=.own r j p→(∀e∈es,e.length=sz)→es.length≤cap→
  w.heap[b]?=some (.cells vals E)→off+cap*sz≤vals.size→
  (∀i c e d x,es[i]?=some e→e[c]?=some d→vals[off+i*sz+c]?=some x→OW w g r j (p++[(i,c)]) d x)→
  OW w g r j p (.sl sz es) (.slice (some ⟨b,off,none⟩) es.length cap)
inductive RC (w:World) (g:Gh) (r j:Nat):C→Value→Prop
 |ro (k:Bool) (d:D) (v:Value):RO w g.cl k d v→RC w g r j (.ro k d) v
 |own (d:D) (v:Value):OW w g r j [] d v→RC w g r j (.own d) v
 |rf (r' j':Nat) (b:Option Addr) (n c:Nat):g.hd (r'+1) j' []=.slice b n c→RC w g r j (.rf r' j') (.slice b n c)
def ku (w:World) (g:Gh) (n:Nat):Rt→Prop
 |.an cs=>∀j c,cs[j]?=some c→RC w g (n+1) j c (g.hd (n+1) j [])
 |.bx cs=>g.cl (g.bk n)=.box n∧∃vals E,w.heap[g.bk n]?=some (.cells vals E)∧vals.size=cs.length∧
  ∀j c x,cs[j]?=some c→vals[j]?=some x→RC w g (n+1) j c x
def iY (v:Value) (sz lo hi:Nat):Value:=
 match v with
 |.slice a _ cap=>.slice (if cap=lo then a else a.map (·.add (lo*sz))) (hi-lo) (cap-lo)
 |v=>v
def qN (v:Value) (o:Nat):Value:=
 match v with
 |.slice (some a) _ _=>.pointer (some ⟨a.block,a.off+o,none⟩)
 |_=>.nilIface
inductive RA (w:World) (g:Gh) (m:Ms):AV→Value→Prop
 |un (v:Value):RA w g m .un v
 |v (k:Bool) (d:D) (x:Value):RO w g.cl k d x→RA w g m (.v k d) x
 |nl (sz:Nat):RA w g m (.nl sz) (.slice none 0 0)
 |agg (cs:List AV) (vs:Array Value):cs.length=vs.size→
  (∀(i:Nat) (a:AV) (x:Value),cs[i]?=some a→vs[i]?=some x→RA w g m a x)→RA w g m (.agg cs) (.agg vs)
 |a_ (cs:List AV) (vs:Array Value):cs.length=vs.size→
  (∀(i:Nat) (a:AV) (x:Value),cs[i]?=some a→vs[i]?=some x→RA w g m a x)→RA w g m (.a_ cs) (.tuple vs)
 |pl (r j:Nat) (p:aY) (b:Option Addr) (n c:Nat):(m.b_ r j p=false→Value.slice b n c=g.hd (r+1) j p)→RA w g m (.pl r j p) (.slice b n c)
 |rg (r j:Nat) (p:aY) (sz lo hi:Nat) (b:Option Addr) (n c:Nat):(m.b_ r j p=false→Value.slice b n c=iY (g.hd (r+1) j p) sz lo hi)→
  RA w g m (.rg r j p sz lo hi) (.slice b n c)
 |bx (r j:Nat):RA w g m (.bx r j) (.pointer (some ⟨g.bk r,j,none⟩))
 |ad (r j:Nat) (p:aY) (sz i c b o:Nat):(m.b_ r j p=false→Value.pointer (some ⟨b,o,none⟩)=qN (g.hd (r+1) j p) (i*sz+c))→
  RA w g m (.ad r j p sz i c) (.pointer (some ⟨b,o,none⟩))
 |ra (k:Bool) (sz:Nat) (es:List (List D)) (i c b off cap:Nat):
  RO w g.cl k (.sl sz es) (.slice (some ⟨b,off,none⟩) es.length cap)→i<es.length→
  RA w g m (.ra k sz es i c) (.pointer (some ⟨b,off+i*sz+c,none⟩))
 |fv (f r:Nat):RA w g m (.fv f r) (.func (.func (fI f)) #[] #[.pointer (some ⟨g.bk r,0,none⟩)])
structure eB (w w':World):Prop where
 os:w'.os=w.os
 out:w'.output=w.output
 fz:∀a,(w.heap[a.block]?).isSome=true→(w'.heap[a.block]?).isSome=true∧w'.frozen? a=w.frozen? a
 tp:w'.tape=w.tape
 dr:w.drawn≤w'.drawn
theorem eB.refl (w:World):eB w w:=⟨rfl,rfl,fun _ h=>⟨h,rfl⟩,rfl,zm _⟩
theorem eB.trans {w w' ub:World} (h:eB w w') (h':eB w' ub):eB w ub:=⟨h'.os.trans h.os,h'.out.trans h.out,fun a i=>⟨(h'.fz a (h.fz a i).1).1,(h'.fz a (h.fz a i).1).2.trans (h.fz a i).2⟩,h'.tp.trans h.tp,Nat.le_trans h.dr h'.dr⟩
theorem eB.of {w w':World} {b:Nat} (os:w'.os=w.os) (out:w'.output=w.output) (tp:w'.tape=w.tape) (dr:w.drawn≤w'.drawn) (h:∀b',b'≠b→w'.heap[b']?=w.heap[b']?)
 (h1:w.heap[b]?=none∨∃v E,w.heap[b]?=some (.cells v E)) (h2:∃v E,w'.heap[b]?=some (.cells v E)):eB w w':=by
 refine ⟨os,out,fun a i=>?_,tp,dr⟩;by_cases e:a.block=b
 ·obtain ⟨v,E,h2⟩:=h2;refine ⟨by rw [e,h2];rfl,?_⟩;rcases h1 with h1|⟨v',E',h1⟩<;>simp [World.frozen?,e,h1,h2]
 ·refine ⟨by rw [h _ e];exact i,?_⟩;simp [World.frozen?,h _ e]
theorem cell_of {w w':World} {b:Nat} (h:w'.heap[b]?=w.heap[b]?) (o:Nat) (s:Option Nat):w'.cell? ⟨b,o,s⟩=w.cell? ⟨b,o,s⟩:=by
 simp [World.cell?,h]
theorem lH {w:World} {b o:Nat} {vals:Array Value} {E:TypeId} {fz:Nat×Nat} (h:w.heap[b]?=some (.cells vals E fz)):
 w.cell? ⟨b,o,none⟩=vals[o]?:=by simp [World.cell?,h]
theorem oX {i n sz j off cap N:Nat} (hi:i<n) (hj:j<sz) (hc:n≤cap) (hN:off+cap*sz≤N):off+i*sz+j<N:=by
 have h1:(i+1)*sz≤cap*sz:=zn sz (by omega);rw [Nat.succ_mul] at h1;omega
theorem jY {es:List (List D)} {i sz:Nat} {e:List D} (h:∀e∈es,e.length=sz) (he:es[i]?=some e):e.length=sz:=
 h e (List.mem_of_getElem? he)
theorem bE {α:Type} {l:List α} {i:Nat} {x:α} (h:l[i]?=some x):i<l.length:=by
 rcases zx i l.length with hl|hl
 ·exact hl
 ·simp [zN hl] at h
theorem aaQ {α:Type} {l:Array α} {i:Nat} {x:α} (h:l[i]?=some x):i<l.size:=by
 rcases zx i l.size with hl|hl
 ·exact hl
 ·simp [zu hl] at h
theorem RO.mono {w w':World} {cl cl':Nat→cG} {k k':Bool} {d:D} {v:Value} (h:RO w cl k d v)
 (hb:∀b,cl b=kc k→w'.heap[b]?=w.heap[b]?∧cl' b=kc k'):RO w' cl' k' d v:=by
 induction h with
 |int=>exact .int _ _
 |bool=>exact .bool _
 |str=>exact .str _
 |dead=>exact .dead _
 |emp=>exact .emp _ _ _
 |sl sz es b off cap hc hl cz hs _ ih=>
  have cF:=hb b hc;refine .sl sz es b off cap cF.2 hl cz (fun i j hi hj=>?_) (fun i j e d x he hd hx=>?_)
  ·rw [cell_of cF.1];exact hs i j hi hj
  ·rw [cell_of cF.1] at hx;exact ih i j e d x he hd hx
 |fn=>exact .fn _
 |sR g ds b bm hc hs _ ih=>
  have cF:=hb b hc;refine .sR g ds b bm cF.2 (fun i hi=>?_) (fun i d x hd hx=>?_)
  ·rw [cell_of cF.1];exact hs i hi
  ·rw [cell_of cF.1] at hx;exact ih i d x hd hx
 |rp ds b bm hc hs _ ih=>
  have cF:=hb b hc;refine .rp ds b bm cF.2 (fun i hi=>?_) (fun i d x hd hx=>?_)
  ·rw [cell_of cF.1];exact hs i hi
  ·rw [cell_of cF.1] at hx;exact ih i d x hd hx
theorem OW.mono {w w':World} {g g':Gh} {r j r' j':Nat} {q:aY} {d:D} {v:Value} (h:OW w g r j q d v):
 ∀{q':aY},(∀b ρ,g.cl b=.own r j (q++ρ)→w'.heap[b]?=w.heap[b]?∧g'.cl b=.own r' j' (q'++ρ))→
  (∀ρ,g'.hd r' j' (q'++ρ)=g.hd r j (q++ρ))→OW w' g' r' j' q' d v:=by
 induction h with
 |int=>exact fun _ _=>.int _ _ _
 |bool=>exact fun _ _=>.bool _ _
 |str=>exact fun _ _=>.str _ _
 |dead p v hh=>exact fun _ h2=>.dead _ _ (by have:=h2 [];simp only [zK] at this;rw [this,hh])
 |nil p sz hh=>exact fun _ h2=>.nil _ _ (by have:=h2 [];simp only [zK] at this;rw [this,hh])
 |sl p sz es b off cap vals E hh hc hl cz hv hN _ ih=>
  intro q' h1 h2;have hb:=h1 b [] (by simpa using hc);have L8:=h2 [];simp only [zK] at hb L8;refine .sl q' sz es b off cap vals E (by rw [L8,hh]) hb.2 hl cz (by rw [hb.1];exact hv) hN (fun i c e d x he hd hx=>?_);refine ih i c e d x he hd hx (fun b ρ hb=>?_) (fun ρ=>?_)
  ·have:=h1 b ((i,c)::ρ) (by simpa using hb);simpa using this
  ·have:=h2 ((i,c)::ρ);simpa using this
theorem OW.borrow {w w':World} {g:Gh} {cl':Nat→cG} {r j:Nat} {q:aY} {d:D} {v:Value} (h:OW w g r j q d v)
 (h1:∀b ρ,g.cl b=.own r j (q++ρ)→w'.heap[b]?=w.heap[b]?∧cl' b=.gn):RO w' cl' true d v:=by
 induction h with
 |int=>exact .int _ _
 |bool=>exact .bool _
 |str=>exact .str _
 |dead=>exact .dead _
 |nil=>exact .emp _ _ _
 |sl p sz es b off cap vals E hh hc hl cz hv hN _ ih=>
  have hb:=h1 b [] (by simpa using hc);have MA:w'.heap[b]?=some (.cells vals E):=by rw [hb.1];exact hv
  refine .sl sz es b off cap hb.2 hl cz (fun i c hi hc=>?_) (fun i c e d x he hd hx=>?_)
  ·rw [lH MA];have:=oX (off:=off) hi hc cz hN;simp [this]
  ·rw [lH MA] at hx;refine ih i c e d x he hd hx (fun b ρ hb=>?_);exact h1 b ((i,c)::ρ) (by simpa using hb)
theorem OW.iR {w:World} {g:Gh} {r j:Nat} {p:aY} {sz:Nat} {es:List (List D)} {v:Value} (h:OW w g r j p (.sl sz es) v):
 v=g.hd r j p:=by
 cases h with
 |nil _ _ h=>exact h.symm
 |sl _ _ _ _ _ _ _ _ h=>exact h.symm
theorem OW.slice {w:World} {g:Gh} {r j:Nat} {p:aY} {sz:Nat} {es:List (List D)} {v:Value} (h:OW w g r j p (.sl sz es) v):
 ∃b n c,v=.slice b n c:=by
 cases h with
 |nil=>exact ⟨_,_,_,rfl⟩
 |sl=>exact ⟨_,_,_,rfl⟩
theorem OW.fO {w:World} {g:Gh} {r j:Nat}:∀(p:aY) {q:aY} {d0 d:D} {v:Value},OW w g r j q d0 v→d0.fO p=some d→
 ∃x,OW w g r j (q++p) d x:=by
 intro p;induction p with
 |nil=>intro q d0 d v h hd;simp [D.fO] at hd;subst hd;exact ⟨v,by simpa using h⟩
 |cons s p ih=>
  intro q d0 d v h hd;obtain ⟨i,c⟩:=s;cases d0 with
  |sl sz es=>
   simp only [D.fO] at hd;cases he:es[i]? with
   |none=>simp [he] at hd
   |some e=>
    cases iS:e[c]? with
    |none=>simp [he,iS] at hd
    |some d1=>
     simp [he,iS] at hd;cases h with
     |nil=>simp at he
     |sl _ _ _ b off cap vals E hh hc hl cz hv hN hk=>
      have h1:=jY hl he;have h2:=bE iS;have h3:=oX (off:=off) (bE he) (h1▸h2) cz hN;obtain ⟨x,hx⟩:=ih (hk i c e d1 _ he iS (by simp [h3];rfl)) hd;exact ⟨x,by simpa using hx⟩
  |_=>simp [D.fO] at hd
theorem OW.put {w w':World} {g g':Gh} {r j:Nat}:∀(p:aY) {q:aY} {d0 old y:D} {v:Value},OW w g r j q d0 v→d0.fO p=some old→
 (∀b ρ,g.cl b=.own r j ρ→¬(q++p <+: ρ)→w'.heap[b]?=w.heap[b]?∧g'.cl b=.own r j ρ)→
 (∀ρ,¬(q++p <+: ρ)→g'.hd r j ρ=g.hd r j ρ)→
 (∀x,OW w g r j (q++p) old x→OW w' g' r j (q++p) y x)→OW w' g' r j q (d0.put p y) v:=by
 intro p;induction p with
 |nil=>intro q d0 old y v h hd _ _ hn;simp [D.fO] at hd;subst hd;simpa [D.put] using hn v (by simpa using h)
 |cons s p ih=>
  intro q d0 old y v h hd hb hh hn;obtain ⟨i,c⟩:=s;cases d0 with
  |sl sz es=>
   simp only [D.fO] at hd;cases he:es[i]? with
   |none=>simp [he] at hd
   |some e=>
    cases iS:e[c]? with
    |none=>simp [he,iS] at hd
    |some d1=>
     simp [he,iS] at hd;simp only [D.put,he,iS]
     have dj:¬(q++(i,c)::p <+: q):=by
      intro hp;have:=hp.length_le;simp at this;omega
     cases h with
     |nil=>simp at he
     |sl _ _ _ b off cap vals E cq hc hl cz hv hN hk=>
      have dR:=hb b q hc dj;have L9:=hh q dj;have hlen:(es.set i (e.set c (d1.put p y))).length=es.length:=by simp
      rw [←hlen];refine .sl q sz _ b off cap vals E (by rw [L9,cq,hlen]) dR.2 ?_ (by rw [hlen];exact cz) (by rw [dR.1];exact hv) hN ?_
      ·intro e' fi;rcases List.mem_or_eq_of_mem_set fi with h|h
       ·exact hl _ h
       ·subst h;simp;exact jY hl he
      ·intro i' c' e' d' x fi gW hx;by_cases hi:i'=i
       ·subst hi;have ae:=bE he;rw [zf ae] at fi;cases fi;by_cases dG:c'=c
        ·subst dG;have gA:=bE iS;rw [zf gA] at gW;cases gW;refine ih (hk i' c' e d1 x he iS hx) hd ?_ ?_ ?_
         ·intro b ρ h1 h2;exact hb b ρ h1 (by simpa using h2)
         ·intro ρ h2;exact hh ρ (by simpa using h2)
         ·intro x hx;have:=hn x (by simpa using hx);simpa using this
        ·rw [zj (by omega)] at gW;refine (hk i' c' e d' x he gW hx).mono (fun b ρ h1=>hb b _ h1 ?_) (fun ρ=>hh _ ?_)
         all_goals
          intro hp;rw [zi,zA] at hp;simp at hp;exact dG hp.1.symm
       ·rw [zj (by omega)] at fi;refine (hk i' c' e' d' x fi gW hx).mono (fun b ρ h1=>hb b _ h1 ?_) (fun ρ=>hh _ ?_)
        all_goals
         intro hp;rw [zi,zA] at hp;simp at hp;exact hi hp.1.1.symm
  |_=>simp [D.fO] at hd
structure dv where
 g:Gh
 io:List Nat
instance:CoeFun dv (fun _=>Nat→cG):=⟨fun I=>I.g.cl⟩
def wS (I:dv) (i:Nat) (rt:Option Rt) (g:Gh):Prop:=
 match rt with
 |some (.an _)=>∀j,g.hd (i+1) j []=I.g.hd (i+1) j []
 |some (.bx _)=>g.bk i=I.g.bk i
 |none=>False
structure Rel (w0:World) (cl0:dv) (S:St) (ts:Array Value) (w:World) (g:Gh):Prop where
 av:∀n,RA w g S.ms (S.av n) (ts.getD n undef)
 rt:∀n rt,(S.ms n).1=some rt→ku w g n rt
 eT:∀n r,r∈(S.av n).refs→((S.ms r).1).isSome
 eA:∀(n:Nat) (rt:Rt) (j r j':Nat),(S.ms n).1=some rt→rt.cells[j]?=some (C.rf r j')→∃cs,(S.ms r).1=some (.an cs)
 bd:∀b,g.cl b≠.no→b<w.heap.size
 sz:w0.heap.size≤w.heap.size
 fr:∀b,b<w0.heap.size→(cl0 b).ck=false→w.heap[b]?=w0.heap[b]?
 im:∀b k,g.cl b=kc k↔cl0 b=kc k
 mi:∀b,b<w0.heap.size→(g.cl b).ck=true→(cl0 b).ck=true
 sd:eB w0 w
 fK:∀i∈cl0.io,wS cl0 i (S.ms i).1 g
theorem vG {as:List AV} {i:Nat} {a:AV} {r:Nat} (h:as[i]?=some a) (hr:r∈a.refs):r∈AV.cA as:=by
 induction as generalizing i with
 |nil=>simp at h
 |cons b as ih=>
  simp only [AV.cA,zS];cases i with
  |zero=>simp at h;subst h;exact .inl hr
  |succ i=>simp at h;exact .inr (ih h)
theorem RA.mono {w w':World} {g g':Gh} {m m':Ms} {a:AV} {x:Value} (h:RA w g m a x)
 (hb:∀b k,g.cl b=kc k→w'.heap[b]?=w.heap[b]?∧g'.cl b=kc k):
 (∀r∈a.refs,g'.bk r=g.bk r∧∀j p,m'.b_ r j p=false→m.b_ r j p=false∧g'.hd (r+1) j p=g.hd (r+1) j p)→
 RA w' g' m' a x:=by
 induction h with
 |un=>exact fun _=>.un _
 |v k d x h=>exact fun _=>.v k d x (h.mono fun b hc=>hb b k hc)
 |nl=>exact fun _=>.nl _
 |agg cs vs hl _ ih=>exact fun hr=>.agg cs vs hl fun i a x ha hx=>ih i a x ha hx fun r h=>hr r (by simpa [AV.refs] using vG ha h)
 |a_ cs vs hl _ ih=>exact fun hr=>.a_ cs vs hl fun i a x ha hx=>ih i a x ha hx fun r h=>hr r (by simpa [AV.refs] using vG ha h)
 |pl r j p b n c h=>exact fun hr=>.pl r j p b n c fun hk=>(by
  have:=(hr r (by simp [AV.refs])).2 j p hk;rw [this.2];exact h this.1)
 |rg r j p sz lo hi b n c h=>exact fun hr=>.rg r j p sz lo hi b n c fun hk=>(by
  have:=(hr r (by simp [AV.refs])).2 j p hk;rw [this.2];exact h this.1)
 |bx r j=>exact fun hr=>(by
  have:=(hr r (by simp [AV.refs])).1;rw [←this];exact .bx r j)
 |ad r j p sz i c b o h=>exact fun hr=>.ad r j p sz i c b o fun hk=>(by
  have:=(hr r (by simp [AV.refs])).2 j p hk;rw [this.2];exact h this.1)
 |ra k sz es i c b off cap h hi=>exact fun _=>.ra k sz es i c b off cap (h.mono fun b hc=>hb b k hc) hi
 |fv f r=>exact fun hr=>(by
  have:=(hr r (by simp [AV.refs])).1;rw [←this];exact .fv f r)
theorem RC.mono {w w':World} {g g':Gh} {r j r' j':Nat} {c:C} {x:Value} (h:RC w g r j c x)
 (hb:∀b k,g.cl b=kc k→w'.heap[b]?=w.heap[b]?∧g'.cl b=kc k)
 (h1:∀b ρ,g.cl b=.own r j ρ→w'.heap[b]?=w.heap[b]?∧g'.cl b=.own r' j' ρ)
 (h2:∀ρ,g'.hd r' j' ρ=g.hd r j ρ) (h3:∀r1 j1,c=C.rf r1 j1→g'.hd (r1+1) j1 []=g.hd (r1+1) j1 []):
 RC w' g' r' j' c x:=by
 cases h with
 |ro k d _ h=>exact .ro k d _ (h.mono fun b hc=>hb b k hc)
 |own d _ h=>exact .own d _ (h.mono (q':=[]) (by simpa using h1) (by simpa using h2))
 |rf r1 j1 b n c hh=>exact .rf r1 j1 b n c (by rw [h3 r1 j1 rfl];exact hh)
theorem ku.mono {w w':World} {g g':Gh} {n:Nat} {rt:Rt} (h:ku w g n rt)
 (hb:∀b k,g.cl b=kc k→w'.heap[b]?=w.heap[b]?∧g'.cl b=kc k)
 (h1:∀b j ρ,g.cl b=.own (n+1) j ρ→w'.heap[b]?=w.heap[b]?∧g'.cl b=.own (n+1) j ρ)
 (hx:∀cs,rt=.bx cs→g'.bk n=g.bk n∧w'.heap[g.bk n]?=w.heap[g.bk n]?∧g'.cl (g.bk n)=g.cl (g.bk n))
 (h2:∀j ρ,g'.hd (n+1) j ρ=g.hd (n+1) j ρ)
 (h3:∀(j r1 j1:Nat),rt.cells[j]?=some (C.rf r1 j1)→g'.hd (r1+1) j1 []=g.hd (r1+1) j1 []):ku w' g' n rt:=by
 cases rt with
 |an cs=>
  intro j c hc;rw [h2];exact (h j c hc).mono hb (fun b ρ=>h1 b j ρ) (fun ρ=>h2 j ρ) (fun r1 j1 e=>h3 j r1 j1 (by subst e;exact hc))
 |bx cs=>
  obtain ⟨hk,hw,hc⟩:=hx cs rfl;obtain ⟨h4,vals,E,h5,h6,h7⟩:=h;refine ⟨by rw [hk,hc];exact h4,vals,E,by rw [hk,hw];exact h5,h6,fun j c x h8 h9=>?_⟩;exact (h7 j c x h8 h9).mono hb (fun b ρ=>h1 b j ρ) (fun ρ=>h2 j ρ) (fun r1 j1 e=>h3 j r1 j1 (by subst e;exact h8))
def Gh.tk (g:Gh) (r j:Nat) (p:aY) (q:Nat) (v:Value):Gh where
 cl:=fun b=>match g.cl b with
  |.own r1 j1 ρ=>if r1=r+1∧j1=j∧p <+: ρ then .own 0 q (ρ.drop p.length) else .own r1 j1 ρ
  |c=>c
 hd:=fun r1 j1 ρ=>if r1=0∧j1=q then (if ρ=[] then v else g.hd (r+1) j (p++ρ)) else g.hd r1 j1 ρ
 bk:=g.bk
theorem Gh.Jy {g:Gh} {r j:Nat} {p:aY} {q:Nat} {v:Value} {b:Nat} {k:Bool}:(g.tk r j p q v).cl b=kc k↔g.cl b=kc k:=by
 simp only [Gh.tk,kc];cases h:g.cl b<;>simp;split<;>cases k<;>simp
theorem TC {k:Bool} {r j:Nat} {p:aY}:kc k≠.own r j p:=by cases k<;>simp [kc]
theorem abI {k:Bool} {r:Nat}:kc k≠.box r:=by cases k<;>simp [kc]
theorem Gh.W6 {g:Gh} {r j:Nat} {p:aY} {q:Nat} {v:Value} {b:Nat}:((g.tk r j p q v).cl b).ck=(g.cl b).ck:=by
 simp only [Gh.tk];cases h:g.cl b<;>simp only [];split<;>rfl
theorem Gh.W7 {g:Gh} {r j:Nat} {p:aY} {q:Nat} {v:Value} {b:Nat}:(g.tk r j p q v).cl b=.no↔g.cl b=.no:=by
 simp only [Gh.tk];cases h:g.cl b<;>simp;split<;>simp
theorem Gh.Jz {g:Gh} {r j:Nat} {p:aY} {q:Nat} {v:Value} {b r1 j1:Nat} {ρ:aY} (h:g.cl b=.own r1 j1 ρ)
 (hn:¬(r1=r+1∧j1=j∧p <+: ρ)):(g.tk r j p q v).cl b=.own r1 j1 ρ:=by
 simp only [Gh.tk,h,if_neg hn]
theorem D6 {m:Ms} {r:Nat} {c:Option Rt} {kl:List (Nat×aY)} {r1 j:Nat} {p:aY}
 (h:Ms.b_ (az m r (c,kl++(m r).2)) r1 j p=false):m.b_ r1 j p=false:=by
 simp only [Ms.b_,az] at h ⊢;split at h
 ·rename_i e;subst e;simp [List.any_append] at h;simp;exact fun a b pZ=>h.2 a b pZ
 ·exact h
theorem Km {rt:Rt} {j:Nat} {c:C}:(rt.gG j c).cells=rt.cells.set j c:=by cases rt<;>rfl
theorem ku.put {w w':World} {g g':Gh} {n:Nat} {rt:Rt} {j:Nat} {p:aY} {d0 old y:D} (h:ku w g n rt)
 (hc:rt.cells[j]?=some (.own d0)) (hd:d0.fO p=some old)
 (hb:∀b k,g.cl b=kc k→w'.heap[b]?=w.heap[b]?∧g'.cl b=kc k)
 (h1:∀b j1 ρ,g.cl b=.own (n+1) j1 ρ→¬(j1=j∧p <+: ρ)→w'.heap[b]?=w.heap[b]?∧g'.cl b=.own (n+1) j1 ρ)
 (hx:∀cs,rt=.bx cs→g'.bk n=g.bk n∧w'.heap[g.bk n]?=w.heap[g.bk n]?∧g'.cl (g.bk n)=g.cl (g.bk n))
 (h2:∀j1 ρ,¬(j1=j∧p <+: ρ)→g'.hd (n+1) j1 ρ=g.hd (n+1) j1 ρ)
 (Q3:∀cs,rt=.an cs→g'.hd (n+1) j []=g.hd (n+1) j [])
 (h3:∀(j r1 j1:Nat),rt.cells[j]?=some (C.rf r1 j1)→g'.hd (r1+1) j1 []=g.hd (r1+1) j1 [])
 (hn:∀x,OW w g (n+1) j p old x→OW w' g' (n+1) j p y x):ku w' g' n (rt.gG j (.own (d0.put p y))):=by
 have key:∀x,RC w g (n+1) j (.own d0) x→RC w' g' (n+1) j (.own (d0.put p y)) x:=by
  intro x hx;cases hx with
  |own d v ho=>
   refine .own _ _ (OW.put p ho hd (fun b ρ h4 h5=>h1 b j ρ h4 (by simpa using h5)) (fun ρ h5=>h2 j ρ (by simpa using h5)) (by simpa using hn))
 cases rt with
 |an cs=>
  intro j1 c lb;simp only [Rt.cells] at hc h3;by_cases e:j1=j
  ·subst e;rw [zf (bE hc)] at lb;cases lb;rw [Q3 cs rfl];exact key _ (h j1 _ hc)
  ·rw [zj (by omega)] at lb;rw [h2 j1 [] (by simp [e])];exact (h j1 c lb).mono hb (fun b ρ h4=>h1 b j1 ρ h4 (by simp [e])) (fun ρ=>h2 j1 ρ (by simp [e])) (fun r1 j2 e2=>h3 j1 r1 j2 (by subst e2;exact lb))
 |bx cs=>
  obtain ⟨hk,hw,Rq⟩:=hx cs rfl;obtain ⟨h4,vals,E,h5,h6,h7⟩:=h;simp only [Rt.cells] at hc h3;refine ⟨by rw [hk,Rq];exact h4,vals,E,by rw [hk,hw];exact h5,by simpa using h6,fun j1 c x h8 h9=>?_⟩;by_cases e:j1=j
  ·subst e;rw [zf (bE hc)] at h8;cases h8;exact key _ (h7 j1 _ x hc h9)
  ·rw [zj (by omega)] at h8;exact (h7 j1 c x h8 h9).mono hb (fun b ρ h4=>h1 b j1 ρ h4 (by simp [e])) (fun ρ=>h2 j1 ρ (by simp [e])) (fun r1 j2 e2=>h3 j1 r1 j2 (by subst e2;exact h8))
theorem gl {m:Ms} {r j:Nat} {p:aY} {d:D} (h:m.at r j p=some d):
 m.b_ r j p=false∧∃rt d0,(m r).1=some rt∧rt.cells[j]?=some (.own d0)∧d0.fO p=some d:=by
 simp only [Ms.at,Ms.cell] at h;split at h
 ·simp at h
 ·rename_i hk;refine ⟨by simpa using hk,?_⟩;cases hm:(m r).1 with
  |none=>simp [hm] at h
  |some rt=>
   simp only [hm] at h;cases hc:rt.cells[j]? with
   |none=>simp [hc] at h
   |some c=>
    cases c with
    |own d0=>simp only [hc] at h;exact ⟨rt,d0,rfl,hc,h⟩
    |_=>simp [hc] at h
theorem Rel.at {w0:World} {cl0:dv} {S:St} {ts:Array Value} {w:World} {g:Gh} (R:Rel w0 cl0 S ts w g)
 {r j:Nat} {p:aY} {d:D} (h:S.ms.at r j p=some d):∃x,OW w g (r+1) j p d x:=by
 obtain ⟨_,rt,d0,h1,h2,h3⟩:=gl h;have h4:=R.rt r rt h1;cases rt with
 |an cs=>
  have:=h4 j _ h2;generalize g.hd (r+1) j []=v at this;cases this with
  |own _ _ ho=>simpa using ho.fO p h3
 |bx cs=>
  obtain ⟨_,vals,E,_,h6,h7⟩:=h4;have ae:j<vals.size:=by rw [h6];exact bE h2
  have:=h7 j _ vals[j] h2 (by simp [ae]);cases this with
  |own _ _ ho=>simpa using ho.fO p h3
section
theorem sx {m m':Ms} {r j:Nat} {p:aY} {d:D} (h:m.take r j p=some (d,m')):
 ∃sz es rt d0,d=.sl sz es∧m.at r j p=some (.sl sz es)∧(m r).1=some rt∧rt.cells[j]?=some (.own d0)∧d0.fO p=some (.sl sz es)∧
  m'=az m r (some (rt.gG j (.own (d0.put p .dead))),(m r).2):=by
 simp only [Ms.take] at h;split at h
 ·rename_i sz es ha;obtain ⟨_,rt,d0,h1,h2,h3⟩:=gl ha;simp only [Ms.putAt,h1,h2] at h;simp at h;exact ⟨sz,es,rt,d0,h.1.symm,ha,h1,h2,h3,h.2.symm⟩
 ·simp at h
theorem g_ {α:Type} {f:Nat→α} {n:Nat} {x:α}:az f n x n=x:=by simp [az]
theorem fk {α:Type} {f:Nat→α} {n k:Nat} {x:α} (h:k≠n):az f n x k=f k:=by simp [az,h]
theorem ace {rt:Rt} {j:Nat} {c:C} {cs:List C} (h:rt=.an cs):∃kF,rt.gG j c=.an kF:=by subst h;exact ⟨_,rfl⟩
section
variable {w0:World} {cl0:dv} {S:St} {ts:Array Value} {w:World} {g:Gh}
theorem wH {m:Ms} {r:Nat} {rt':Rt} {kl:List (Nat×aY)} {k:Nat} (h:((m k).1).isSome):((az m r (some rt',kl) k).1).isSome:=by
 by_cases e:k=r
 ·subst e;simp [az]
 ·simpa [az,e] using h
theorem NN {m:Ms} {r j:Nat} {rt:Rt} {c0:C} {kl:List (Nat×aY)} (cj:(m r).1=some rt) (hc:∀r' j',c0≠.rf r' j')
 (H:∀(n:Nat) (rt:Rt) (j r j':Nat),(m n).1=some rt→rt.cells[j]?=some (C.rf r j')→∃cs,(m r).1=some (.an cs)):
 ∀(n:Nat) (cw:Rt) (j1 r1 ya:Nat),(az m r (some (rt.gG j c0),kl) n).1=some cw→cw.cells[j1]?=some (C.rf r1 ya)→
  ∃cs,(az m r (some (rt.gG j c0),kl) r1).1=some (.an cs):=by
 intro n cw j1 r1 ya h1 h2
 have:∃cs,(m r1).1=some (.an cs):=by
  by_cases e:n=r
  ·subst e;simp [az] at h1;subst h1;rw [Km] at h2;by_cases e2:j1=j
   ·subst e2;rcases zx j1 rt.cells.length with hl|hl
    ·rw [zf hl] at h2;cases h2;exact absurd rfl (hc _ _)
    ·rw [zN (by simpa using hl)] at h2;cases h2
   ·rw [zj (by omega)] at h2;exact H n rt j1 r1 ya cj h2
  ·simp [az,e] at h1;exact H n cw j1 r1 ya h1 h2
 obtain ⟨cs,h3⟩:=this;by_cases e:r1=r
 ·subst e;rw [cj] at h3;cases h3;exact ⟨cs.set j c0,by simp [az,Rt.gG]⟩
 ·exact ⟨cs,by simpa [az,e] using h3⟩
theorem Rel.take (R:Rel w0 cl0 S ts w g) {r j:Nat} {p:aY} {d:D} {m':Ms} (ht:S.ms.take r j p=some (d,m')) (q:Nat) (v:Value):
 Rel w0 cl0 { S with ms:=m' } ts w (g.tk r j p q v):=by
 obtain ⟨sz,es,rt,d0,rfl,ha,h1,h2,h3,rfl⟩:=sx ht;have c_:∀b k,g.cl b=kc k→w.heap[b]?=w.heap[b]?∧(g.tk r j p q v).cl b=kc k:=fun b k h=>⟨rfl,Gh.Jy.2 h⟩
 have cq:∀n j1 ρ,(g.tk r j p q v).hd (n+1) j1 ρ=g.hd (n+1) j1 ρ:=fun n j1 ρ=>by simp [Gh.tk]
 refine { av:=fun n=>?_,rt:=fun n cw h4=>?_,eT:=fun n r1 h4=>wH (R.eT n r1 h4),eA:=NN h1 (by simp) R.eA,
          bd:=fun b h4=>R.bd b (by rwa [ne_eq,Gh.W7] at h4),sz:=R.sz,fr:=R.fr,im:=fun b k=>Gh.Jy.trans (R.im b k),
          mi:=fun b h4 h5=>R.mi b h4 (by rwa [Gh.W6] at h5),sd:=R.sd,
          fK:=fun i hi=>?_ }
 rotate_left 2
 ·have h4:=R.fK i hi;by_cases e:i=r
  ·subst e;rw [h1] at h4;simp only [az,if_true];cases rt with
   |an cs=>exact fun j1=>(cq _ _ _).trans (h4 j1)
   |bx cs=>exact h4
  ·simp only [fk e];revert h4;cases (S.ms i).1 with
   |none=>exact id
   |some cw=>
    cases cw with
    |an cs=>exact fun h4 j1=>(cq _ _ _).trans (h4 j1)
    |bx cs=>exact id
 ·refine (R.av n).mono c_ (fun r1 _=>⟨rfl,fun j1 p1 h4=>⟨?_,cq _ _ _⟩⟩);exact D6 (m:=S.ms) (kl:=[]) (by simpa using h4)
 ·by_cases e:n=r
  ·subst e;simp [az] at h4;subst h4
   refine (R.rt n rt h1).put h2 h3 c_ (fun b j1 ρ h5 h6=>⟨rfl,Gh.Jz h5 (by simpa using h6)⟩) (fun cs _=>⟨rfl,rfl,?_⟩)
    (fun j1 ρ _=>cq _ _ _) (fun _ _=>cq _ _ _) (fun _ _ _ _=>cq _ _ _) (fun x hx=>.dead _ _ ((cq _ _ _).trans hx.iR.symm))
   have:=R.rt n rt h1;rename_i nD;subst nD;simp only [Gh.tk,this.1]
  ·simp only [fk e] at h4
   refine (R.rt n cw h4).mono c_ (fun b j1 ρ h5=>⟨rfl,Gh.Jz h5 (by simp [e])⟩) (fun cs hb=>⟨rfl,rfl,?_⟩)
    (fun j1 ρ=>cq _ _ _) (fun _ _ _ _=>cq _ _ _)
   have:=R.rt n cw h4;subst hb;simp only [Gh.tk,this.1]
theorem Rel.W8 (R:Rel w0 cl0 S ts w g) {r j:Nat} {p:aY} {d:D} {m':Ms} (ht:S.ms.take r j p=some (d,m')) (q:Nat):
 OW w (g.tk r j p q (g.hd (r+1) j p)) 0 q [] d (g.hd (r+1) j p):=by
 obtain ⟨sz,es,rt,d0,rfl,ha,h1,h2,h3,rfl⟩:=sx ht;obtain ⟨x,hx⟩:=R.at ha;have vu:=hx.iR;subst vu;refine hx.mono (fun b ρ h=>⟨rfl,?_⟩) (fun ρ=>?_)
 ·simp [Gh.tk,h]
 ·simp only [Gh.tk,List.nil_append,and_self,if_true];split
  ·rename_i e;subst e;simp
  ·rfl
theorem Rel.W9 (R:Rel w0 cl0 S ts w g) {r j:Nat} {p:aY} {sz:Nat} {es:List (List D)} {m':Ms} (ht:S.ms.take r j p=some (.sl sz es,m')) (q hi:Nat)
 (mL:hi≤es.length):
 OW w (g.tk r j p q (iY (g.hd (r+1) j p) sz 0 hi)) 0 q [] (.sl sz (es.take hi)) (iY (g.hd (r+1) j p) sz 0 hi):=by
 obtain ⟨wM,Qr,rt,d0,e1,ha,h1,h2,h3,rfl⟩:=sx ht;cases e1;obtain ⟨x,hx⟩:=R.at ha;have vu:=hx.iR;subst vu;generalize hv:g.hd (r+1) j p=v at hx;cases hx with
 |nil=>
  simp only [iY,zV];have:hi=0:=by simpa using mL
  subst this;refine .nil _ _ (by simp [Gh.tk])
 |sl _ _ _ b off cap vals E hh hc hl cz hw hN hk=>
  have hlen:(es.take hi).length=hi:=by simp;omega
  have iD:iY (.slice (some ⟨b,off,none⟩) es.length cap) sz 0 hi=.slice (some ⟨b,off,none⟩) (es.take hi).length cap:=by
   simp only [iY,Nat.zero_mul,Nat.sub_zero,hlen];split<;>simp [Addr.add]
  rw [iD];refine .sl _ _ _ b off cap vals E (by simp [Gh.tk]) (by simp [Gh.tk,hc]) (fun e he=>hl e (zo he)) (by omega) hw hN ?_;intro i c e d x he hd hx
  have fi:es[i]?=some e:=by
   rw [zg] at he;split at he
   ·exact he
   ·cases he
  refine (hk i c e d x fi hd hx).mono (fun b ρ h=>⟨rfl,?_⟩) (fun ρ=>?_)
  ·simp [Gh.tk,h]
  ·simp [Gh.tk]
structure fl (N:Nat→Prop) (g:Gh) (m:Ms) (g':Gh) (m':Ms):Prop where
 kc:∀b k,g'.cl b=kc k↔g.cl b=kc k
 hd:∀n j ρ,g'.hd (n+1) j ρ=g.hd (n+1) j ρ
 bk:g'.bk=g.bk
 kl:∀r,(m' r).2=(m r).2
 cl0:∀b q ρ,¬N q→g.cl b=.own 0 q ρ→g'.cl b=.own 0 q ρ
 iA:∀q ρ,¬N q→g'.hd 0 q ρ=g.hd 0 q ρ
 so:∀r,((m r).1).isSome→((m' r).1).isSome
 no:∀r,(m r).1=none→(m' r).1=none
 bx:∀b r,g.cl b=.box r→g'.cl b=.box r
theorem fl.refl (N:Nat→Prop) (g:Gh) (m:Ms):fl N g m g m:=
 ⟨fun _ _=>.rfl,fun _ _ _=>rfl,rfl,fun _=>rfl,fun _ _ _ _ h=>h,fun _ _ _=>rfl,fun _ h=>h,fun _ h=>h,fun _ _ h=>h⟩
theorem fl.sD {N N':Nat→Prop} {g g':Gh} {m m':Ms} (h:fl N g m g' m') (hN:∀q,N q→N' q):fl N' g m g' m':=
 ⟨h.kc,h.hd,h.bk,h.kl,fun b q ρ hq=>h.cl0 b q ρ fun e=>hq (hN q e),fun q ρ hq=>h.iA q ρ fun e=>hq (hN q e),h.so,h.no,h.bx⟩
theorem fl.trans {N:Nat→Prop} {g g1 g2:Gh} {m m1 m2:Ms} (h:fl N g m g1 m1) (h':fl N g1 m1 g2 m2):fl N g m g2 m2:=
 ⟨fun b k=>(h'.kc b k).trans (h.kc b k),fun n j ρ=>(h'.hd n j ρ).trans (h.hd n j ρ),h'.bk.trans h.bk,fun r=>(h'.kl r).trans (h.kl r),
  fun b q ρ cv hb=>h'.cl0 b q ρ cv (h.cl0 b q ρ cv hb),fun q ρ cv=>(h'.iA q ρ cv).trans (h.iA q ρ cv),
  fun r hr=>h'.so r (h.so r hr),fun r hr=>h'.no r (h.no r hr),fun b r hb=>h'.bx b r (h.bx b r hb)⟩
theorem fl.ra {N:Nat→Prop} {g g':Gh} {m m':Ms} {w:World} (h:fl N g m g' m') {a:AV} {x:Value} (ha:RA w g m a x):RA w g' m' a x:=
 ha.mono (fun b k hb=>⟨rfl,(h.kc b k).2 hb⟩) (fun r _=>⟨by rw [h.bk],fun j p hk=>⟨by simpa only [Ms.b_,h.kl] using hk,h.hd _ _ _⟩⟩)
theorem fl.rc {N:Nat→Prop} {g g':Gh} {m m':Ms} {w:World} (h:fl N g m g' m') {q:Nat} (hq:¬N q) {c:C} {x:Value} (ha:RC w g 0 q c x):RC w g' 0 q c x:=
 ha.mono (fun b k hb=>⟨rfl,(h.kc b k).2 hb⟩) (fun b ρ hb=>⟨rfl,h.cl0 b q ρ hq hb⟩) (fun ρ=>h.iA q ρ hq) (fun _ _ _=>h.hd _ _ _)
theorem fl.ow {N:Nat→Prop} {g g':Gh} {m m':Ms} {w:World} (h:fl N g m g' m') {q:Nat} (hq:¬N q) {c:D} {x:Value} (ha:OW w g 0 q [] c x):OW w g' 0 q [] c x:=
 ha.mono (fun b ρ hb=>⟨rfl,h.cl0 b q _ hq hb⟩) (fun ρ=>h.iA q _ hq)
theorem fl.tk {m:Ms} {r j:Nat} {p:aY} {d:D} {m':Ms} (ht:m.take r j p=some (d,m')) (g:Gh) (q:Nat) (v:Value):fl (·=q) g m (g.tk r j p q v) m':=by
 obtain ⟨sz,es,rt,d0,rfl,ha,h1,h2,h3,rfl⟩:=sx ht
 refine ⟨fun _ _=>Gh.Jy,fun n j1 ρ=>by simp [Gh.tk],rfl,fun r1=>?_,fun b q1 ρ hq hb=>Gh.Jz hb (by simp),fun q1 ρ hq=>?_,
  fun r1 h=>wH h,fun r1 h=>?_,fun b r1 hb=>by simp [Gh.tk,hb]⟩
 ·by_cases e:r1=r
  ·subst e;simp [az]
  ·simp [az,e]
 ·simp [Gh.tk,hq]
 ·by_cases e:r1=r
  ·subst e;rw [h1] at h;cases h
  ·simpa [az,e] using h
theorem xk {d:Option D} {sz lo hi:Nat} {es:List (List D)} (h:qS d sz lo hi=some es):
 ∃mC,d=some (.sl sz mC)∧lo≤hi∧hi≤mC.length∧es=(mC.take hi).drop lo:=by
 unfold qS at h;split at h
 ·split at h
  ·rename_i hh;obtain ⟨h1,h2,h3⟩:=hh;subst h1;exact ⟨_,rfl,h2,h3,by simpa using h.symm⟩
  ·cases h
 ·cases h
theorem uh {S:St} (R:Rel w0 cl0 S ts w g) {a:AV} {c:C} {x:Value} {m':Ms} (ha:RA w g S.ms a x) (h:eH S.ms a=some (c,m')) (q:Nat):
 ∃g',Rel w0 cl0 { S with ms:=m' } ts w g'∧fl (·=q) g S.ms g' m'∧RC w g' 0 q c x:=by
 unfold eH at h;split at h
 ·cases h
 ·rename_i k d _;simp at h;obtain ⟨rfl,rfl⟩:=h;cases ha with
  |v _ _ _ hr=>exact ⟨g,R,.refl _ _ _,.ro _ _ _ hr⟩
 ·rename_i sz;simp at h;obtain ⟨rfl,rfl⟩:=h;cases ha with
  |nl=>
   refine ⟨{ g with hd:=fun r1 j1 ρ=>if r1=0∧j1=q then .slice none 0 0 else g.hd r1 j1 ρ },?_,⟨fun _ _=>.rfl,fun n j ρ=>by simp,rfl,fun _=>rfl,fun _ _ _ _ h=>h,fun q1 ρ hq=>?_,fun _ h=>h,fun _ h=>h,fun _ _ h=>h⟩,.own _ _ (.nil _ _ (by simp))⟩
   ·exact { av:=fun n=>(R.av n).mono (fun b k h=>⟨rfl,h⟩) (fun r _=>⟨rfl,fun j p hk=>⟨hk,by simp⟩⟩),
            rt:=fun n rt h=>(R.rt n rt h).mono (fun b k h=>⟨rfl,h⟩) (fun b j ρ h=>⟨rfl,h⟩) (fun _ _=>⟨rfl,rfl,rfl⟩) (fun j ρ=>by simp) (fun _ _ _ _=>by simp),
            eT:=R.eT,eA:=R.eA,bd:=R.bd,sz:=R.sz,fr:=R.fr,im:=R.im,mi:=R.mi,sd:=R.sd,fK:=R.fK }
   ·simp [hq]
 ·rename_i r j p;split at h
  ·rename_i d m1 ht;simp at h;obtain ⟨rfl,rfl⟩:=h;cases ha with
   |pl _ _ _ _ _ _ hx=>
    obtain ⟨sz,es,rt,d0,rfl,bI,_⟩:=sx ht;have hk:=(gl bI).1;rw [hx hk];exact ⟨_,R.take ht q _,.tk ht g q _,.own _ _ (R.W8 ht q)⟩
  ·cases h
 ·rename_i r j p sz hi;split at h
  ·rename_i es d m1 hc ht;simp at h;obtain ⟨rfl,rfl⟩:=h;obtain ⟨mC,bI,_,mL,rfl⟩:=xk hc;obtain ⟨wM,Qr,rt,d0,rfl,LX,_⟩:=sx ht;rw [bI] at LX;cases LX;cases ha with
   |rg _ _ _ _ _ _ _ _ _ hx=>
    have hk:=(gl bI).1;rw [hx hk];exact ⟨_,R.take ht q _,.tk ht g q _,.own _ _ (by simpa using R.W9 ht q hi mL)⟩
  ·cases h
 ·cases h
theorem BH:∀(as:List AV) {S:St} {g:Gh} (R:Rel w0 cl0 S ts w g) {vals:List Value} {cs:List C} {m':Ms} (q:Nat),
 as.length=vals.length→(∀(i:Nat) (a:AV) (x:Value),as[i]?=some a→vals[i]?=some x→RA w g S.ms a x)→
 fm S.ms as=some (cs,m')→
 ∃g',Rel w0 cl0 { S with ms:=m' } ts w g'∧fl (fun x=>q≤x∧x<q+as.length) g S.ms g' m'∧cs.length=as.length∧
  ∀(i:Nat) (c:C) (x:Value),cs[i]?=some c→vals[i]?=some x→RC w g' 0 (q+i) c x:=by
 intro as;induction as with
 |nil=>
  intro S g R vals cs m' q hl hv h;simp [fm] at h;obtain ⟨rfl,rfl⟩:=h;exact ⟨g,R,.refl _ _ _,rfl,fun i c x hc=>by simp at hc⟩
 |cons a as ih=>
  intro S g R vals cs m' q hl hv h;cases vals with
  |nil=>simp at hl
  |cons v vals=>
   simp only [fm] at h;cases h1:eH S.ms a with
   |none=>simp [h1] at h
   |some cm=>
    obtain ⟨c,m1⟩:=cm;simp only [h1] at h;cases h2:fm m1 as with
    |none=>simp [h2] at h
    |some Kt=>
     obtain ⟨jt,m2⟩:=Kt;simp only [h2] at h;simp at h;obtain ⟨rfl,rfl⟩:=h;obtain ⟨g1,R1,T1,lb⟩:=uh R (hv 0 a v rfl rfl) h1 q
     obtain ⟨g2,R2,T2,bY,xF⟩:=ih (S:={ S with ms:=m1 }) R1 (vals:=vals) (q+1) (by simpa using hl)
      (fun i a x ha hx=>T1.ra (hv (i+1) a x ha hx)) h2
     refine ⟨g2,R2,(T1.sD fun x h=>(by subst h;simp)).trans (T2.sD fun x h=>(by simp only [List.length_cons];omega)),by simp [bY],fun i c1 x hc hx=>?_⟩;cases i with
     |zero=>simp at hc hx;subst hc;subst hx;exact T2.rc (by omega) lb
     |succ i=>
      have:=xF i c1 x hc hx;rwa [show q+(i+1)=q+1+i from by omega]
end
end
section
section
variable {w0:World} {cl0:dv} {S:St} {ts:Array Value} {w:World} {g:Gh}
theorem Rel.slot (R:Rel w0 cl0 S ts w g) {d:Nat} {a:AV} {v:Value} (hd:d<ts.size) (ha:RA w g S.ms a v)
 (hr:∀r∈a.refs,((S.ms r).1).isSome):Rel w0 cl0 { S with av:=az S.av d a } (ts.setIfInBounds d v) w g:=by
 refine { av:=fun n=>?_,rt:=R.rt,eT:=fun n r h=>?_,eA:=R.eA,bd:=R.bd,sz:=R.sz,fr:=R.fr,im:=R.im,mi:=R.mi,sd:=R.sd,fK:=R.fK }
 ·by_cases e:n=d
  ·subst e;simp [az,zB,hd];exact ha
  ·simp only [fk e]
   have:(ts.setIfInBounds d v).getD n undef=ts.getD n undef:=by
    simp [zB,Array.getElem?_setIfInBounds,Ne.symm e]
   rw [this];exact R.av n
 ·by_cases e:n=d
  ·subst e;simp [az] at h;exact hr r h
  ·simp only [fk e] at h;exact R.eT n r h
structure ek (d:Nat) (w w':World) (g g':Gh):Prop where
 hp:∀b,b<w.heap.size→(∀j ρ,g.cl b≠.own 0 j ρ)→w'.heap[b]?=w.heap[b]?
 hs:w.heap.size≤w'.heap.size
 kc:∀b k,g'.cl b=kc k↔g.cl b=kc k
 cl:∀b n j ρ,g.cl b=.own (n+1) j ρ→n≠d→g'.cl b=.own (n+1) j ρ
 bx:∀b n,g.cl b=.box n→n≠d→g'.cl b=.box n
 hd:∀n j ρ,n≠d→g'.hd (n+1) j ρ=g.hd (n+1) j ρ
 bk:∀n,n≠d→g'.bk n=g.bk n
 bd:∀b,g'.cl b≠.no→g.cl b≠.no∨(w.heap.size≤b∧b<w'.heap.size)
 mi:∀b,b<w.heap.size→(g'.cl b).ck=true→(g.cl b).ck=true
 sd:eB w w'
theorem ek.refl (d:Nat) (w:World) (g:Gh):ek d w w g g:=
 ⟨fun _ _ _=>rfl,zm _,fun _ _=>.rfl,fun _ _ _ _ h _=>h,fun _ _ h _=>h,fun _ _ _ _=>rfl,fun _ _=>rfl,fun _ h=>.inl h,fun _ _ h=>h,.refl _⟩
theorem Rel.fresh (R:Rel w0 cl0 S ts w g) {d:Nat} {rt:Rt} {w':World} {g':Gh} (hn:(S.ms d).1=none) (H:ek d w w' g g')
 (cj:ku w' g' d rt) (oS:∀(j r j':Nat),rt.cells[j]?=some (C.rf r j')→∃cs,(S.ms r).1=some (.an cs)):
 Rel w0 cl0 { S with ms:=az S.ms d (some rt,[]) } ts w' g':=by
 have ae:∀b,g.cl b≠.no→(∀j ρ,g.cl b≠.own 0 j ρ)→w'.heap[b]?=w.heap[b]?:=fun b hb=>H.hp b (R.bd b hb)
 have c_:∀b k,g.cl b=OM.kc k→w'.heap[b]?=w.heap[b]?∧g'.cl b=OM.kc k:=
  fun b k h=>⟨ae b (by rw [h];cases k<;>simp [OM.kc]) (by rw [h];cases k<;>simp [OM.kc]),(H.kc b k).2 h⟩
 have bm:∀r,((S.ms r).1).isSome→r≠d:=fun r h e=>by subst e;simp [hn] at h
 refine { av:=fun n=>?_,rt:=fun n cw h=>?_,eT:=fun n r h=>wH (R.eT n r h),eA:=fun n cw j r j' h h1=>?_,
          bd:=fun b h=>?_,sz:=Nat.le_trans R.sz H.hs,fr:=fun b hb hm=>?_,im:=fun b k=>(H.kc b k).trans (R.im b k),
          mi:=fun b hb hm=>R.mi b hb (H.mi b (zC hb R.sz) hm),sd:=R.sd.trans H.sd,
          fK:=fun i hi=>(by
           have h:=R.fK i hi;have bm:i≠d:=fun e=>by subst e;rw [hn] at h;exact h
           simp only [fk bm];revert h;cases (S.ms i).1 with
           |none=>exact id
           |some cw=>
            cases cw with
            |an cs=>exact fun h j1=>(H.hd i j1 [] bm).trans (h j1)
            |bx cs=>exact fun h=>(H.bk i bm).trans h) }
 ·refine (R.av n).mono c_ (fun r hr=>?_);have:=bm r (R.eT n r hr);exact ⟨H.bk r this,fun j p hk=>⟨by simpa only [Ms.b_,fk this] using hk,H.hd r j p this⟩⟩
 ·by_cases e:n=d
  ·subst e;simp [az] at h;subst h;exact cj
  ·simp only [fk e] at h;have h0:=R.rt n cw h;refine h0.mono c_ (fun b j ρ hb=>⟨ae b (by rw [hb];simp) (by rw [hb];simp),H.cl b n j ρ hb e⟩) (fun cs cC=>?_) (fun j ρ=>H.hd n j ρ e) (fun j r1 j1 hc=>?_)
   ·subst cC;exact ⟨H.bk n e,ae _ (by rw [h0.1];simp) (by rw [h0.1];simp),by rw [h0.1];exact H.bx _ _ h0.1 e⟩
   ·obtain ⟨cs,h2⟩:=R.eA n cw j r1 j1 h hc;exact H.hd r1 j1 [] (bm r1 (by simp [h2]))
 ·have:∃cs,(S.ms r).1=some (.an cs):=by
   by_cases e:n=d
   ·subst e;simp [az] at h;subst h;exact oS j r j' h1
   ·simp only [fk e] at h;exact R.eA n cw j r j' h h1
  obtain ⟨cs,h2⟩:=this;exact ⟨cs,by simp only [fk (bm r (by simp [h2]))];exact h2⟩
 ·rcases H.bd b h with h1|h1
  ·exact zC (R.bd b h1) H.hs
  ·exact h1.2
 ·rw [H.hp b (zC hb R.sz) (fun j ρ h=>by
   have:=R.mi b hb (by rw [h];rfl)
   rw [this] at hm;cases hm)]
  exact R.fr b hb hm
structure O5 (r b0:Nat) (an:Bool) (m':Ms) (w w':World) (g g':Gh):Prop where
 hp:∀b,b≠b0→w'.heap[b]?=w.heap[b]?
 hs:w'.heap.size=w.heap.size
 ow:g.cl b0=.box r∨∃j ρ,g.cl b0=.own (r+1) j ρ
 kc:∀b k,g'.cl b=kc k↔g.cl b=kc k
 cl:∀b n j ρ,g.cl b=.own (n+1) j ρ→g'.cl b=.own (n+1) j ρ
 bx:∀b n,g.cl b=.box n→g'.cl b=.box n
 hd:∀n j ρ,n≠r→g'.hd (n+1) j ρ=g.hd (n+1) j ρ
 hr:∀j ρ,m'.b_ r j ρ=false→g'.hd (r+1) j ρ=g.hd (r+1) j ρ
 hv:∀j,an=true→g'.hd (r+1) j []=g.hd (r+1) j []
 bk:g'.bk=g.bk
 bd:∀b,g'.cl b≠.no→g.cl b≠.no
 mi:∀b,(g'.cl b).ck=true→(g.cl b).ck=true
 sd:eB w w'
theorem Rel.Kn (R:Rel w0 cl0 S ts w g) {r b0:Nat} {rt rt':Rt} {kl:List (Nat×aY)} {w':World} {g':Gh} (h0:(S.ms r).1=some rt)
 (DR:rt.rI=rt'.rI)
 (H:O5 r b0 rt.rI (az S.ms r (some rt',kl++(S.ms r).2)) w w' g g') (cj:ku w' g' r rt')
 (oS:∀(j r1 j':Nat),rt'.cells[j]?=some (C.rf r1 j')→∃cs,(S.ms r1).1=some (.an cs)):
 Rel w0 cl0 { S with ms:=az S.ms r (some rt',kl++(S.ms r).2) } ts w' g':=by
 have C5:(g.cl b0).ck=true:=by rcases H.ow with h|⟨j,ρ,h⟩<;>rw [h]<;>rfl
 have c_:∀b k,g.cl b=OM.kc k→w'.heap[b]?=w.heap[b]?∧g'.cl b=OM.kc k:=fun b k h=>
  ⟨H.hp b (fun e=>by subst e;rw [h] at C5;cases k<;>simp [OM.kc,cG.ck] at C5),(H.kc b k).2 h⟩
 have SR:∀r1 cs,(S.ms r1).1=some (.an cs)→∃kF,(az S.ms r (some rt',kl++(S.ms r).2) r1).1=some (.an kF):=by
  intro r1 cs h;by_cases e:r1=r
  ·subst e;rw [h0] at h;cases h;cases rt' with
   |an kF=>exact ⟨kF,by simp [az]⟩
   |bx=>simp [Rt.rI] at DR
  ·exact ⟨cs,by simpa [az,e] using h⟩
 refine { av:=fun n=>?_,rt:=fun n cw h=>?_,eT:=fun n r1 h=>wH (R.eT n r1 h),eA:=fun n cw j r1 j' h h1=>?_,
          bd:=fun b h=>?_,sz:=by show _≤w'.heap.size;rw [H.hs];exact R.sz,fr:=fun b hb hm=>?_,im:=fun b k=>(H.kc b k).trans (R.im b k),
          mi:=fun b hb hm=>R.mi b hb (H.mi b hm),sd:=R.sd.trans H.sd,
          fK:=fun i hi=>(by
           have h:=R.fK i hi;by_cases e:i=r
           ·subst e;rw [h0] at h;simp only [az,if_true];cases rt with
            |an cs=>
             cases rt' with
             |an kF=>exact fun j1=>(H.hv j1 rfl).trans (h j1)
             |bx kF=>simp [Rt.rI] at DR
            |bx cs=>
             cases rt' with
             |an kF=>simp [Rt.rI] at DR
             |bx kF=>exact (congrFun H.bk i).trans h
           ·simp only [fk e];revert h;cases (S.ms i).1 with
            |none=>exact id
            |some cw=>
             cases cw with
             |an cs=>exact fun h j1=>(H.hd i j1 [] e).trans (h j1)
             |bx cs=>exact fun h=>(congrFun H.bk i).trans h) }
 ·refine (R.av n).mono c_ (fun r1 hr=>⟨by rw [H.bk],fun j p hk=>⟨D6 hk,?_⟩⟩);by_cases e:r1=r
  ·subst e;exact H.hr j p hk
  ·exact H.hd r1 j p e
 ·by_cases e:n=r
  ·subst e;simp [az] at h;subst h;exact cj
  ·simp only [fk e] at h;have h2:=R.rt n cw h;refine h2.mono c_ (fun b j ρ hb=>⟨H.hp b (fun e1=>?_),H.cl b n j ρ hb⟩) (fun cs cC=>?_) (fun j ρ=>H.hd n j ρ e) (fun j r1 j1 hc=>?_)
   ·subst e1;rcases H.ow with h3|⟨j3,ρ3,h3⟩<;>rw [h3] at hb
    ·cases hb
    ·simp at hb;exact e hb.1.symm
   ·subst cC;refine ⟨by rw [H.bk],H.hp _ (fun e1=>?_),by rw [h2.1];exact H.bx _ _ h2.1⟩;have h4:=h2.1;rw [e1] at h4;rcases H.ow with h3|⟨j3,ρ3,h3⟩<;>rw [h3] at h4
    ·cases h4;exact e rfl
    ·cases h4
   ·obtain ⟨cs,h3⟩:=R.eA n cw j r1 j1 h hc;by_cases e1:r1=r
    ·subst e1;rw [h0] at h3;cases h3;exact H.hv j1 rfl
    ·exact H.hd r1 j1 [] e1
 ·have:∃cs,(S.ms r1).1=some (.an cs):=by
   by_cases e:n=r
   ·subst e;simp [az] at h;subst h;exact oS j r1 j' h1
   ·simp only [fk e] at h;exact R.eA n cw j r1 j' h h1
  obtain ⟨cs,h2⟩:=this;exact SR r1 cs h2
 ·show b<w'.heap.size;rw [H.hs];exact R.bd b (H.bd b h)
 ·by_cases e:b=b0
  ·subst e;have:=R.mi b hb C5;rw [this] at hm;cases hm
  ·rw [H.hp b e];exact R.fr b hb hm
end
end
theorem Vz {l vs:List Value} {o k:Nat} (h:o+vs.length≤l.length):
 (l.take o++vs++l.drop (o+vs.length)).toArray[k]?=if o≤k∧k<o+vs.length then vs[k-o]? else l[k]?:=by
 simp only [List.getElem?_toArray];by_cases h1:k<o
 ·rw [if_neg (by omega),zi,zI (by simp;omega),zd h1]
 ·by_cases h2:k<o+vs.length
  ·rw [if_pos ⟨by omega,h2⟩,zi,zF (by simp;omega)];simp only [zJ];rw [show min o l.length=o from by omega,zI (by omega)]
  ·rw [if_neg (by omega),zF (by simp;omega)];simp only [zP,zJ,zh];rw [show min o l.length=o from by omega];congr 1;omega
theorem eB.alloc {w:World} (vals:Array Value) (E:TypeId):eB w (w.alloc (.cells vals E)):=
 .of (b:=w.heap.size) rfl rfl rfl (zm _) (fun b' hb=>by
  rcases zx b' w.heap.size with h|h
  ·exact heap_alloc_old w _ b' h
  ·rw [zu (by simp;omega),zu (by omega)]) (.inl (by simp)) ⟨_,_,heap_alloc_new w _⟩
theorem Jt (P:Program) {w:World} {b o:Nat} {vals:Array Value} {E:TypeId} (hw:w.heap[b]?=some (.cells vals E)) (xs:List Value)
 (h:o+xs.length≤vals.size) (h1:∀x∈xs,x.oneCell'=true):
 ∃w' eO,(storeCells ⟨b,o,none⟩ xs 0).run P w=.ok () w'∧w'.heap[b]?=some (.cells eO E)∧eO.size=vals.size∧
  (∀k:Nat,eO[k]?=if o≤k∧k<o+xs.length then xs[k-o]? else vals[k]?)∧(∀b',b'≠b→w'.heap[b']?=w.heap[b']?)∧w'.heap.size=w.heap.size∧eB w w':=by
 have hr:=run_storeCells_at (P:=P) b o E xs 0 vals w hw (by simpa using h) h1;simp only [Nat.add_zero] at hr
 refine ⟨_,_,hr,setRow_heap w b vals _ E _ hw,?_,fun k=>?_,fun b' hb=>setRow_other w b b' _ hb,setRow_size _ _ _,
  .of rfl rfl rfl (zm _) (fun b' hb=>setRow_other w b b' _ hb) (.inr ⟨_,_,hw⟩) ⟨_,_,setRow_heap w b vals _ E _ hw⟩⟩
 ·simp only [zR,zP,zJ,List.length_drop,Array.length_toList];omega
 ·rw [Vz (by simpa using h)];simp
theorem vE (P:Program) {w:World} {b o n:Nat} {xs:List Value} (hl:xs.length=n)
 (h:∀(k:Nat) (x:Value),xs[k]?=some x→w.cell? ⟨b,o+k,none⟩=some x):(loadCells ⟨b,o,none⟩ n).run P w=.ok xs.toArray w:=by
 rw [←hl];refine run_loadCells_list w ⟨b,o,none⟩ xs (fun j v hv=>?_);rw [Addr.add_lit];exact h j v hv
theorem JU (P:Program) {w:World} {t u ty e E0:TypeId} {i:TypeInfo} {z x:Value} {n:Nat} {news:List Value}
 (ht:P.underlying t=some (.slice e)) (hi:P.info? e=some i) (hz:i.zero=some z)
 (hx:(P.underlying u=some (.slice e)∧∃a c,x=.slice a n c)∨(P.underlying u=some .string∧∃s:ByteArray,x=.string s∧s.size=n)) (hf:∀w1:World,w1.heap=w.heap→(Builtin.firstCells i.size n x).run P w1=.ok news.toArray w1)
 (hl:news.length=n*i.size) (h1:∀y∈news,y.oneCell'=true)
 (base:Option Addr) (dO iK:Nat) (hb:(base=none∧dO=0∧iK=0)∨∃b off vals,base=some ⟨b,off,none⟩∧dO≤iK∧
  w.heap[b]?=some (.cells vals E0)∧off+iK*i.size≤vals.size) (oH:(dO+n)*i.bytes≤2^46) (h63:dO+n≤2^62):
 (∃(b off:Nat) (vals:Array Value) (w':World) (eO:Array Value),base=some ⟨b,off,none⟩∧dO+n≤iK∧w.heap[b]?=some (.cells vals E0)∧off+iK*i.size≤vals.size∧
  (Builtin.append_ #[t,u] ty #[.slice base dO iK,x]).run P w=.ok (.slice (some ⟨b,off,none⟩) (dO+n) iK) w'∧
  w'.heap[b]?=some (.cells eO E0)∧eO.size=vals.size∧
  (∀k:Nat,eO[k]?=if off+dO*i.size≤k∧k<off+dO*i.size+n*i.size then news[k-(off+dO*i.size)]? else vals[k]?)∧
  (∀b',b'≠b→w'.heap[b']?=w.heap[b']?)∧w'.heap.size=w.heap.size∧eB w w')∨
 (base=none∧n=0∧(Builtin.append_ #[t,u] ty #[.slice base dO iK,x]).run P w=.ok (.slice none 0 0) w)∨
 (∃(cap:Nat) (eO:Array Value) (w':World) (lv:List Value),dO+n≤cap∧(Builtin.append_ #[t,u] ty #[.slice base dO iK,x]).run P w=.ok (.slice (some ⟨w.heap.size,0,none⟩) (dO+n) cap) w'∧
  w'.heap[w.heap.size]?=some (.cells eO e)∧w'.heap.size=w.heap.size+1∧eB w w'∧(∀b',b'<w.heap.size→w'.heap[b']?=w.heap[b']?)∧
  (∀k:Nat,k<dO*i.size→eO[k]?=lv[k]?)∧lv.length=dO*i.size∧
  (∀k:Nat,k<n*i.size→eO[dO*i.size+k]?=news[k]?)∧(z.cells.size=i.size→cap*i.size=eO.size)∧
  (∀b off vals,base=some ⟨b,off,none⟩→w.heap[b]?=some (.cells vals E0)→∀k:Nat,k<dO*i.size→lv[k]?=vals[off+k]?)):=by
 have hmul:∀k,dO+n≤k→dO*i.size+n*i.size≤k*i.size:=fun k hk=>by rw [←zw];exact zn _ hk
 by_cases rC:dO+n≤iK
 ·rcases hb with ⟨rfl,rfl,rfl⟩|⟨b,off,vals,rfl,rD,hw,hN⟩
  ·right;left;have eL:n=0:=by omega
   subst eL;refine ⟨rfl,rfl,?_⟩;have mJ:=hf w rfl;rcases hx with ⟨hu,a,c,rfl⟩|⟨hu,s,rfl,hs⟩
   ·simp [Builtin.append_,run_underlying ht,run_underlying hu,sizeOf,typeInfo,hi,Builtin.lenOf,mJ]
   ·rw [←hs] at mJ;simp [Builtin.append_,run_underlying ht,run_underlying hu,sizeOf,typeInfo,hi,Builtin.lenOf,hs,mJ];try (rw [hs] at mJ;simp [mJ])
  ·left;obtain ⟨w',eO,hr,h2,h3,h4,h5,h6⟩:=Jt P hw (o:=off+dO*i.size) news (by rw [hl];have:=hmul iK rC;omega) h1;refine ⟨b,off,vals,w',eO,rfl,rC,hw,hN,?_,h2,h3,fun k=>by rw [h4,hl],h5,h6⟩;have mJ:=hf w rfl;rcases hx with ⟨hu,a,c,rfl⟩|⟨hu,s,rfl,hs⟩
   ·simp [Builtin.append_,run_underlying ht,run_underlying hu,sizeOf,typeInfo,hi,Builtin.lenOf,rC,mJ,Addr.add_lit,hr]
   ·simp [Builtin.append_,run_underlying ht,run_underlying hu,sizeOf,typeInfo,hi,Builtin.lenOf,hs,rC,mJ,Addr.add_lit,hr]
 ·right;right;have LG:¬(9223372036854775807<((dO:Int)+(n:Int))):=by omega
  have LB:¬(281474976710656<Builtin.nextslicecap (dO+n) iK*i.bytes):=by
   have:=growslice_fits (need:=dO+n) (old:=iK) (bytes:=i.bytes) (by omega) (by omega);omega
  have au:=grownCap_ge w (dO+n) iK e
  have hold:∃lv:List Value,lv.length=dO*i.size∧(∀w1:World,w1.heap=w.heap→(Builtin.firstCells i.size dO (.slice base dO iK)).run P w1=.ok lv.toArray w1)∧
   (∀b off vals,base=some ⟨b,off,none⟩→w.heap[b]?=some (.cells vals E0)→∀k:Nat,k<dO*i.size→lv[k]?=vals[off+k]?):=by
   rcases hb with ⟨rfl,rfl,rfl⟩|⟨b,off,vals,rfl,rD,hw,hN⟩
   ·exact ⟨[],by simp,fun w1 _=>by simp [Builtin.firstCells],fun _ _ _ h=>by cases h⟩
   ·have hle:dO*i.size≤iK*i.size:=zn _ rD;refine ⟨(vals.toList.drop off).take (dO*i.size),by simp;omega,fun w1 d_=>?_,fun b1 M8 aam dh d_ k hk=>?_⟩
    ·simp only [Builtin.firstCells];refine vE P (by simp;omega) (fun k x hx=>?_);rw [lH (vals:=vals) (E:=E0) (fz:=(0,0)) (by rw [d_];exact hw)];rw [zg] at hx;split at hx
     ·simpa using hx
     ·cases hx
    ·cases dh;rw [hw] at d_;cases d_;rw [zd hk];simp
  obtain ⟨lv,DA,u_,Sn⟩:=hold
  refine ⟨grownCap w (dO+n) iK e,lv.toArray++news.toArray++Builtin.zeroCells z.cells (grownCap w (dO+n) iK e-(dO+n)),
   w.drew.alloc (.cells (lv.toArray++news.toArray++Builtin.zeroCells z.cells (grownCap w (dO+n) iK e-(dO+n))) e),lv,au,?_,?_,?_,?_,?_,?_,DA,?_,?_,Sn⟩
  ·have mJ:=hf w.drew rfl;have mR:=u_ w.drew rfl;rcases hx with ⟨hu,a,c,rfl⟩|⟨hu,s,rfl,hs⟩
   ·simp [Builtin.append_,run_underlying ht,run_underlying hu,sizeOf,typeInfo,zeroValue,hi,hz,Builtin.lenOf,rC,LG,LB,Question.forced,mJ,mR,newRow,grownCap];congr 2;apply Array.ext';simp [zi]
   ·simp [Builtin.append_,run_underlying ht,run_underlying hu,sizeOf,typeInfo,zeroValue,hi,hz,Builtin.lenOf,hs,rC,LG,LB,Question.forced,mJ,mR,newRow,grownCap];congr 2;apply Array.ext';simp [zi]
  ·exact heap_alloc_new w.drew _
  ·simp
  ·exact ⟨rfl,rfl,(eB.alloc (w:=w.drew) _ _).fz,rfl,Nat.le_succ _⟩
  ·exact fun b' cF=>heap_alloc_old w.drew _ b' cF
  ·intro k hk;rw [zQ,zG (by simp;omega)];simp
  ·intro k hk;rw [zQ,Array.getElem?_append_right (by simp;omega),zG (by simp;omega)];simp [DA]
  ·intro jD;simp only [Array.size_append,zR,size_zeroCells,jD,DA,hl,←zw];congr 1;omega
section
def Live (m:Ms) (a:AV):Prop:=∀r∈a.refs,((m r).1).isSome
section
variable {w0:World} {cl0:dv} {S:St} {ts:Array Value} {w:World} {g:Gh} {m:Ms}
theorem RO.scalar {k:Bool} {d:D} {x:Value} {cl:Nat→cG} (h:RO w cl k d x) (hs:∀sz es,d≠.sl sz es) (hf:∀g ds,d≠.fn g ds) (hr:∀ds,d≠.rp ds):RO w cl false d x:=by
 cases h with
 |int=>exact .int _ _
 |bool=>exact .bool _
 |str=>exact .str _
 |dead=>exact .dead _
 |emp=>exact absurd rfl (hs _ _)
 |sl=>exact absurd rfl (hs _ _)
 |fn=>exact absurd rfl (hf _ _)
 |sR=>exact absurd rfl (hf _ _)
 |rp=>exact absurd rfl (hr _)
theorem yj {k:Bool} {d:D} {x:Value} (h:RO w g.cl k d x):RA w g m (o_ k d) x:=by
 unfold o_;split
 ·exact .v _ _ _ h
 ·exact .v _ _ _ h
 ·exact .v _ _ _ h
 ·rename_i h1 h2 h3;exact .v _ _ _ (h.scalar h1 h2 h3)
theorem ym (k:Bool) (d:D):(o_ k d).refs=[]:=by unfold o_;split<;>simp [AV.refs]
theorem OW.scalar {r j:Nat} {p:aY} {d:D} {x:Value} (h:OW w g r j p d x) (hs:∀sz es,d≠.sl sz es) (hd:d≠.dead) (k:Bool):RO w g.cl k d x:=by
 cases h with
 |int=>exact .int _ _
 |bool=>exact .bool _
 |str=>exact .str _
 |dead=>exact absurd rfl hd
 |nil=>exact absurd rfl (hs _ _)
 |sl=>exact absurd rfl (hs _ _)
theorem BV {r j:Nat} {p:aY} {d:D} {x:Value} (h:OW w g (r+1) j p d x):RA w g m (ou r j p d) x:=by
 unfold ou;split
 ·obtain ⟨b,n,c,rfl⟩:=h.slice;exact .pl _ _ _ _ _ _ fun _=>h.iR
 ·exact .un _
 ·rename_i h1 h2;exact .v _ _ _ (h.scalar h1 h2 _)
theorem Kk {r j:Nat} {p:aY} {d:D} (h:((m r).1).isSome):Live m (ou r j p d):=by
 unfold ou Live;split<;>simp [AV.refs,h]
theorem pw {r j:Nat} {c:C} {x:Value} (h:RC w g (r+1) j c x):RA w g m (iI r j c) x:=by
 cases h with
 |ro k d _ h=>exact yj h
 |own d _ h=>exact BV h
 |rf r' j' b n c hh=>exact .pl _ _ _ _ _ _ fun _=>hh.symm
theorem Vr {r j:Nat} {c:C} (h:((m r).1).isSome) (hf:∀r' j',c=.rf r' j'→((m r').1).isSome):Live m (iI r j c):=by
 cases c with
 |ro k d=>simp [iI,Live,ym]
 |own d=>exact Kk h
 |rf r' j'=>simp [iI,Live,AV.refs,hf r' j' rfl]
theorem O4 {α:Type} {l:List α} {j k:Nat} {x:α×Nat} (h:(l.zipIdx)[k]?=some x):l[k]?=some x.1∧x.2=k:=by
 rw [List.getElem?_zipIdx] at h;simp only [zb] at h;obtain ⟨a,h1,rfl⟩:=h;simpa using h1
theorem tj {o:Option Rt} {rt:Rt} (h:o=some rt):o.isSome:=by rw [h];rfl
theorem MV (R:Rel w0 cl0 S ts w g) {a:AV} {v:Value} (ha:RA w g S.ms a v) {n:Nat} {BL:List AV} (h:jG S.ms n a=some BL):
 ∃(b o:Nat) (xs:List Value),v=.pointer (some ⟨b,o,none⟩)∧xs.length=n∧BL.length=n∧
  (∀(k:Nat) (x:Value),xs[k]?=some x→w.cell? ⟨b,o+k,none⟩=some x)∧
  ∀(k:Nat) (av:AV) (x:Value),BL[k]?=some av→xs[k]?=some x→RA w g S.ms av x∧Live S.ms av:=by
 cases ha with
 |bx r j=>
  simp only [jG] at h;cases hr:(S.ms r).1 with
  |none=>simp [hr] at h
  |some rt=>
   cases rt with
   |an=>simp [hr] at h
   |bx cs=>
    simp only [hr] at h;split at h
    ·rename_i hle;simp at h;subst h;obtain ⟨bq,vals,E,hh,hs,hc⟩:=R.rt r _ hr;refine ⟨g.bk r,j,(vals.toList.drop j).take n,rfl,by simp;omega,by simp;omega,fun k x hx=>?_,fun k av x cQ hx=>?_⟩
     ·rw [lH hh];rw [zg] at hx;split at hx
      ·simpa using hx
      ·cases hx
     ·simp only [ze,zb] at cQ;obtain ⟨y,hy,rfl⟩:=cQ;obtain ⟨nQ,DZ⟩:=O4 (j:=0) hy;rw [zg] at nQ hx;split at hx
      ·rename_i hk;simp only [hk,if_true] at nQ;simp only [zh,zO] at hx nQ;subst DZ
       exact ⟨pw (hc _ _ x nQ hx),Vr (tj hr) fun r' j' e=>by
        obtain ⟨kF,h5⟩:=R.eA r _ (j+y.2) r' j' hr (by simpa [Rt.cells,e] using nQ)
        exact tj h5⟩
      ·cases hx
    ·cases h
 |ad r j p sz i c b1 o1 hx=>
  simp only [jG] at h;cases bI:S.ms.at r j p with
  |none=>simp [bI] at h
  |some d=>
   cases d with
   |sl ec es=>
    simp only [bI] at h;cases he:es[i]? with
    |none=>simp [he] at h
    |some e=>
     simp only [he] at h;split at h
     ·rename_i hle;obtain ⟨hle,rfl⟩:=hle;simp at h;subst h;obtain ⟨x0,ho⟩:=R.at bI;have hv:=hx (gl bI).1;have:=ho.iR;subst this;obtain ⟨hk,rt,d0,cj,_,_⟩:=gl bI;generalize hg:g.hd (r+1) j p=v0 at ho hv;cases ho with
      |nil=>simp at he
      |sl _ _ _ b off cap vals E hh hc hl cz hw hN gY=>
       rw [hv];have j5:=jY hl he;have xK:=bE he;refine ⟨b,off+(i*ec+c),(vals.toList.drop (off+(i*ec+c))).take n,rfl,?_,by simp;omega,fun k x hx=>?_,fun k av x cQ hx=>?_⟩
       ·have h1:(i+1)*ec≤cap*ec:=zn _ (by omega);rw [Nat.succ_mul] at h1;simp;omega
       ·rw [lH hw];rw [zg] at hx;split at hx
        ·simpa using hx
        ·cases hx
       ·simp only [ze,zb] at cQ;obtain ⟨y,hy,rfl⟩:=cQ;obtain ⟨nQ,DZ⟩:=O4 (j:=0) hy;rw [zg] at nQ hx;split at hx
        ·rename_i hk;simp only [hk,if_true] at nQ;simp only [zh,zO] at hx nQ;subst DZ;have:=gY i (c+y.2) e y.1 x he nQ (by rw [←hx];congr 1;omega);exact ⟨BV this,Kk (tj cj)⟩
        ·cases hx
     ·cases h
   |_=>simp [bI] at h
 |ra k sz es i c b off cap br hi=>
  simp only [jG] at h;cases he:es[i]? with
  |none=>simp [he] at h
  |some e=>
   simp only [he] at h;split at h
   ·rename_i hle;have h:=zT h;subst h;generalize x8:Value.slice (some ⟨b,off,none⟩) es.length cap=v0 at br;cases br with
    |emp=>simp at he
    |sl _ _ b' tu Kj hc hl cz hs gY=>
     cases x8;have j5:=jY hl he;have xK:=bE he;have dp:∀q,q<n→∃x,w.cell? ⟨b,off+i*sz+(c+q),none⟩=some x:=fun q hq=>zr.1 (hs i (c+q) xK (by omega))
     refine ⟨b,off+i*sz+c,(List.range n).map fun q=>(w.cell? ⟨b,off+i*sz+(c+q),none⟩).getD undef,rfl,by simp,by simp;omega,fun k x hx=>?_,fun k av x cQ hx=>?_⟩
     ·simp only [ze,zb] at hx;obtain ⟨y,hy,rfl⟩:=hx;have jk:=bE hy;simp at jk;rw [zp jk] at hy;cases hy;obtain ⟨z,hz⟩:=dp k jk;rw [hz];simpa [zW] using hz
     ·simp only [ze,zb] at hx cQ;obtain ⟨y,hy,rfl⟩:=hx;obtain ⟨u,hu,rfl⟩:=cQ;have jk:=bE hy;simp at jk;rw [zp jk] at hy;cases hy;obtain ⟨z,hz⟩:=dp k jk;rw [zd jk] at hu;simp only [zh] at hu;rw [hz];exact ⟨yj (gY i (c+k) e u z he hu hz),by simp [Live,ym]⟩
   ·cases h
 |v k d x br=>
  cases br with
  |rp ds b bm hc hs gY=>
   simp only [jG] at h;split at h
   ·rename_i hle;have h:=zT h;subst h;have dp:∀q,q<n→∃x,w.cell? ⟨b,0+q,none⟩=some x:=fun q hq=>zr.1 (by rw [Nat.zero_add];exact hs q (by omega))
    refine ⟨b,0,(List.range n).map fun q=>(w.cell? ⟨b,0+q,none⟩).getD undef,rfl,by simp,by simp;omega,fun k x hx=>?_,fun k1 av x cQ hx=>?_⟩
    ·simp only [ze,zb] at hx;obtain ⟨y,hy,rfl⟩:=hx;have jk:=bE hy;simp at jk;rw [zp jk] at hy;cases hy;obtain ⟨z,hz⟩:=dp k jk;rw [hz];rfl
    ·simp only [ze,zb] at hx cQ;obtain ⟨y,hy,rfl⟩:=hx;obtain ⟨u,hu,rfl⟩:=cQ;have jk:=bE hy;simp at jk;rw [zp jk] at hy;cases hy;obtain ⟨z,hz⟩:=dp k1 jk;rw [zd jk] at hu;rw [hz];exact ⟨yj (gY k1 u z hu (by simpa using hz)),by simp [Live,ym]⟩
   ·cases h
  |_=>simp [jG] at h
 |_=>simp [jG] at h
theorem Cn (R:Rel w0 cl0 S ts w g) {a:AV} {v:Value} (ha:RA w g S.ms a v) {sz:Nat} {es:List (List D)} (h:S.ms.fq a=some (sz,es)):
 ∃(b:Option Addr) (cap:Nat),v=.slice b es.length cap∧(∀e∈es,e.length=sz∨es=[])∧
  (es≠[]→∃b' o,b=some ⟨b',o,none⟩∧es.length≤cap∧(∀e∈es,e.length=sz)∧
   ∀(i c:Nat) (e:List D) (d:D),es[i]?=some e→e[c]?=some d→∃x,w.cell? ⟨b',o+i*sz+c,none⟩=some x∧
    ((∃k,RO w g.cl k d x)∨∃r j p,OW w g r j p d x)):=by
 cases ha with
 |v k d x br=>
  cases br with
  |emp s b cap=>simp [Ms.fq] at h;obtain ⟨rfl,rfl⟩:=h;exact ⟨b,cap,rfl,by simp,fun h=>absurd rfl h⟩
  |sl s K1 b off cap hc hl cz hs gY=>
   simp [Ms.fq] at h;obtain ⟨rfl,rfl⟩:=h;refine ⟨_,cap,rfl,fun e he=>.inl (hl e he),fun _=>⟨b,off,rfl,cz,hl,fun i c e d he hd=>?_⟩⟩;obtain ⟨x,hx⟩:=zr.1 (hs i c (bE he) (by have:=jY hl he;have:=bE hd;omega));exact ⟨x,hx,.inl ⟨k,gY i c e d x he hd hx⟩⟩
  |_=>simp [Ms.fq] at h
 |nl s=>simp [Ms.fq] at h;obtain ⟨rfl,rfl⟩:=h;exact ⟨none,0,rfl,by simp,fun h=>absurd rfl h⟩
 |pl r j p b0 n0 c0 hx=>
  simp only [Ms.fq] at h;split at h
  ·rename_i s K1 bI;simp at h;obtain ⟨rfl,rfl⟩:=h;obtain ⟨x0,ho⟩:=R.at bI;have hv:=hx (gl bI).1;have:=ho.iR;subst this;generalize hg:g.hd (r+1) j p=v0 at ho hv;rw [hv];cases ho with
   |nil=>exact ⟨none,0,rfl,by simp,fun h=>absurd rfl h⟩
   |sl _ _ _ b off cap vals E hh hc hl cz hw hN gY=>
    refine ⟨_,cap,rfl,fun e he=>.inl (hl e he),fun _=>⟨b,off,rfl,cz,hl,fun i c e d he hd=>?_⟩⟩;have ae:=oX (off:=off) (bE he) (by have:=jY hl he;have:=bE hd;omega:c<s) cz hN;exact ⟨vals[off+i*s+c],by rw [lH hw];simp [ae],.inr ⟨_,_,_,gY i c e d _ he hd (by simp [ae])⟩⟩
  ·cases h
 |rg r j p ec lo hi b0 n0 c0 hx=>
  simp only [Ms.fq] at h;split at h
  ·rename_i K1 q_;simp at h;obtain ⟨rfl,rfl⟩:=h;obtain ⟨mC,bI,Sh,mL,rfl⟩:=xk q_;obtain ⟨x0,ho⟩:=R.at bI;have hv:=hx (gl bI).1;have:=ho.iR;subst this;generalize hg:g.hd (r+1) j p=v0 at ho hv;rw [hv];have hlen:((mC.take hi).drop lo).length=hi-lo:=by simp;omega
   cases ho with
   |nil=>
    have:hi=0:=by simpa using mL
    subst this;obtain rfl:lo=0:=by omega
    exact ⟨none,0,by simp [iY],by simp,fun h=>by simp at h⟩
   |sl _ _ _ b off cap vals E hh hc hl cz hw hN gY=>
    refine ⟨_,cap-lo,by rw [hlen];rfl,fun e he=>.inl (hl e (zo (zy he))),fun bm=>?_⟩
    have qj:lo<hi:=by
     rcases zx lo hi with h|h
     ·exact h
     ·exact absurd (zz (by omega)) bm
    have bm:cap≠lo:=by omega
    simp only [if_neg bm,zL,Addr.add_lit];refine ⟨b,off+lo*ec,rfl,by omega,fun e he=>hl e (zo (zy he)),fun i c e d he hd=>?_⟩;have Ma:=bE he;rw [hlen] at Ma
    have j4:mC[lo+i]?=some e:=by
     simp only [zh] at he;rw [zd (by omega)] at he;exact he
    have ae:=oX (off:=off) (bE j4) (by have:=jY hl j4;have:=bE hd;omega:c<ec) cz hN;have heq:off+(lo+i)*ec+c=off+lo*ec+i*ec+c:=by rw [zw];omega
    rw [heq] at ae;exact ⟨vals[off+lo*ec+i*ec+c],by rw [lH hw];simp [ae],.inr ⟨_,_,_,gY (lo+i) c e d _ j4 hd (by rw [heq];simp [ae])⟩⟩
  ·cases h
 |_=>simp [Ms.fq] at h
end
end
def uy:AV→Value→Bool
 |.v false (.int k n),.int k' n'=>decide (k=k')&&decide (n=n')
 |.v false (.bool b),.bool b'=>b==b'
 |.v false (.str s),.string s'=>decide (s.data=s'.data)
 |.nl _,.slice none n c=>n==0&&c==0
 |.un,_=>true
 |.a_ [],.tuple vs=>vs.size==0
 |_,_=>false
def qQ:List AV→List Value→Bool
 |[],[]=>true
 |a::as,v::vs=>uy a v&&qQ as vs
 |_,_=>false
def b7:PX→Operand→Bool
 |.t n,.tmp m=>n==m
 |.c a,.const v=>uy a v
 |.c (.v false (.fn g [])),.func f=>f==fI g
 |_,_=>false
def pO:List PX→List Operand→Bool
 |[],[]=>true
 |a::as,v::vs=>b7 a v&&pO as vs
 |_,_=>false
def tT (P:Program):Nat→List Field→List Nat→Bool
 |_,[],[]=>true
 |i,f::fs,k::ks=>f.name != "_"&&f.offset==i&&(match P.underlying f.type,k with
  |some (.int _),0=>true
  |some .bool,1=>true
  |some .string,2=>true
  |_,_=>false)&&tT P (i+1) fs ks
 |_,_,_=>false
def Ja (P:Program) (t:TypeId) (ks:List Nat):Bool:=
 !P.stoodInHeld t&&!P.eqGuardType P.depth t&&match P.underlying t with
 |some (.struct fs)=>tT P 0 fs.toList ks
 |_=>false
def ab3 (P:Program) (t:TypeId):Bool:=
 match P.underlying t with
 |some .bool=>true
 |some (.int _)=>true
 |some .string=>true
 |_=>false
def sH (P:Program) (t:TypeId):Option Bool:=
 match P.underlying t with
 |some (.struct _)=>some true
 |some (.array ..)=>some true
 |some _=>some false
 |none=>none
def hY (P:Program) (t:TypeId):Option TypeId:=
 match P.underlying t with
 |some (.slice e)=>some e
 |_=>none
def oe (P:Program) (t:TypeId):Option (List Value):=
 match P.info? t with
 |some i=>match i.zero with
  |some z=>if z.cells.size=i.size then some z.cells.toList else none
  |none=>none
 |none=>none
def gh (P:Program) (t:TypeId):Option (Nat×Nat):=
 match P.info? t with
 |some i=>some (i.size,i.bytes)
 |none=>none
def qV (P:Program) (t:TypeId) (f:Nat):Option (Nat×Nat):=
 match P.underlying t with
 |some (.struct fs)=>match fs[f]? with
  |some fd=>match P.info? fd.type with
   |some i=>some (fd.offset,i.size)
   |none=>none
  |none=>none
 |_=>none
def xd:D→Value→Bool
 |.int k n,.int k' n'=>decide (k=k')&&decide (n=n')
 |.bool b,.bool b'=>b==b'
 |.str s,.string s'=>decide (s.data=s'.data)
 |.sl _ [],.slice none n c=>n==0&&c==0
 |_,_=>false
def pM:List D→List Value→Bool
 |[],[]=>true
 |a::as,v::vs=>xd a v&&pM as vs
 |_,_=>false
def lI:Option PX→Option Operand→Bool
 |none,none=>true
 |some x,some o=>b7 x o
 |_,_=>false
def sP (at?:Nat→Option (Nat×Nat)):List (Nat×PX)→List (Nat×Operand)→Bool
 |[],[]=>true
 |(off,x)::l,(i,o)::l'=>(match at? i with|some (tu,_)=>off==tu|none=>false)&&b7 x o&&sP at? l l'
 |_,_=>false
def sN (at?:Nat→Option (Nat×Nat)):List (Nat×Nat×PX)→List (Nat×Operand)→Bool
 |[],[]=>true
 |(off,n,x)::l,(i,o)::l'=>decide (at? i=some (off,n))&&b7 x o&&sN at? l l'
 |_,_=>false
def rep {α:Type} (n:Nat) (l:List α):List α:=(zM n l).flatten
def pK (P:Program) (f:FuncId):Bool:=
 match P.funcs[f]? with
 |some fn=>fn.body.isSome&&fn.name != "runtime.NumGoroutine"
 |none=>false
def bf (P:Program) (κ:Nat→FuncId) (o:aA) (op:Op):Bool:=
 match o,op with
 |.mv x,.move a=>b7 x a
 |.mv x,.assign a=>b7 x a
 |.pick c a b,.pick c' a' b'=>b7 c c'&&b7 a a'&&b7 b b'
 |.bin op x y,.binOp rN _ a b _=>decide (op=rN)&&b7 x a&&b7 y b
 |.pU neg x y,.binOp rN t a b _=>decide (rN=if neg then .neq else .eql)&&b7 x a&&b7 y b&&(match P.underlying t with|some .bool=>true|_=>false)
 |.eqs neg ks x y,.binOp rN t a b _=>decide (rN=if neg then .neq else .eql)&&b7 x a&&b7 y b&&Ja P t ks
 |.un op x,.unOp rN _ a=>decide (op=rN)&&b7 x a
 |.len x,.call c=>match c.callee,c.args.toList,c.argTypes.toList with
  |.builtin .len,[a],[t]=>b7 x a&&(match P.underlying t with|some (.slice _)=>true|_=>false)
  |_,_,_=>false
 |.lens x,.call c=>match c.callee,c.args.toList,c.argTypes.toList with
  |.builtin .len,[a],[t]=>b7 x a&&(match P.underlying t with|some .string=>true|_=>false)
  |_,_,_=>false
 |.box _ x,.box _ a=>b7 x a
 |.alloc zs,.alloc t=>match oe P t with
  |some z=>qQ zs z
  |none=>false
 |.build z ps,.build t parts=>(match oe P t with
  |some z'=>qQ z z'
  |none=>false)&&sN (qV P t) ps parts.toList&&(match P.underlying t with
   |some (.struct fs)=>fs.toList.all fun f=>(P.info? f.type).isSome
   |_=>false)
 |.ax sz z n ps,.buildSlice t n' parts=>match hY P t with
  |some e=>match oe P e with
   |some z'=>decide (n=n')&&decide (z'.length=sz)&&decide (n*sz≤2^24)&&pM z (rep n z')&&sP (fun i=>some (i*sz,sz)) ps parts.toList
   |none=>false
  |none=>false
 |.lY sz bytes z x,.makeSlice t l c=>match hY P t with
  |some e=>match oe P e,gh P e with
   |some z',some (_,dI)=>decide (z'.length=sz)&&decide (dI=bytes)&&pM z z'&&b7 x l&&b7 x c&&decide (0<bytes)
   |_,_=>false
  |none=>false
 |.ld agg n x,.load t a=>match sH P t,gh P t with
  |some JQ,some (n',_)=>agg==JQ&&n==n'&&b7 x a
  |_,_=>false
 |.st n x y,.store t a b=>match gh P t with
  |some (n',_)=>n==n'&&b7 x a&&b7 y b
  |none=>false
 |.n7 n x y,.store t a b=>match gh P t with
  |some (n',_)=>n==n'&&b7 x a&&b7 y b
  |none=>false
 |.qW x off,.field t a f=>match P.underlying t with
  |some (.struct fs)=>match fs[f]? with
   |some fd=>off==fd.offset&&b7 x a&&sH P fd.type==some false
   |none=>false
  |_=>false
 |.qn x,.nilCheck a=>b7 x a
 |.bo x off,.fieldAddr t a f=>match qV P t f with
  |some (tu,s)=>off==tu&&b7 x a&&s !=0
  |none=>false
 |.cf sz x i,.indexAddr t a b=>match hY P t with
  |some e=>match gh P e with
   |some (s,_)=>s==sz&&b7 x a&&b7 i b
   |none=>false
  |none=>false
 |.eV sz x lo hi,.slice t a lX fT mx=>mx.isNone&&b7 x a&&lI lo lX&&lI hi fT&&(match hY P t with|some e=>(match gh P e with|some (s,_)=>s==sz|none=>false)|none=>false)
 |.su x lo hi,.slice t a lX fT mx=>mx.isNone&&b7 x a&&lI lo lX&&lI hi fT&&(match P.underlying t with|some .string=>true|_=>false)
 |.ext x k,.extract a k'=>b7 x a&&k==k'
 |.call f _ args,.call c=>match c.callee with
  |.value (.func f')=>f'==κ f&&pO args c.args.toList&&(match P.funcs[f']? with
   |some fn=>fn.body.isSome&&fn.name != "runtime.NumGoroutine"
   |none=>false)
  |_=>false
 |.gM f i args,.call c=>match c.callee with
  |.value (.func f')=>f'==κ f&&pO args c.args.toList&&decide (i<args.length)&&(match P.funcs[f']? with
   |some fn=>fn.body.isSome&&fn.name != "runtime.NumGoroutine"
   |none=>false)
  |_=>false
 |.mw sz z x,.call c=>match c.callee,c.args.toList,c.argTypes.toList with
  |.builtin .clear,[a],[t]=>b7 x a&&(match hY P t with
   |some e=>(match oe P e,gh P e with
    |some zv,some (s,_)=>s==sz&&pM z zv
    |_,_=>false)
   |none=>false)
  |_,_,_=>false
 |.rL g x,.makeFunc fn first captured=>match fn,captured.toList with
  |.func f,[c]=>f==fI g&&first.size==0&&b7 x c
  |_,_=>false
 |.lG x args,.call c=>match c.callee with
  |.value (.tmp t)=>b7 x (.tmp t)&&pO args c.args.toList
  |_=>false
 |.app sz bytes x y,.call c=>match c.callee,c.args.toList,c.argTypes.toList with
  |.builtin .append,[a,b],[t,u]=>b7 x a&&b7 y b&&(match hY P t,hY P u with
   |some e,some e'=>e==e'&&(match oe P e,gh P e with
    |some z,some (s,dI)=>s==sz&&dI==bytes&&z.length==sz&&s !=0&&(bytes !=0)
    |_,_=>false)
   |_,_=>false)
  |_,_,_=>false
 |.apps x y,.call c=>match c.callee,c.args.toList,c.argTypes.toList with
  |.builtin .append,[a,b],[t,u]=>b7 x a&&b7 y b&&(match hY P t,P.underlying u with
   |some e,some .string=>(match oe P e,gh P e with
    |some z,some (s,dI)=>s==1&&dI==1&&z.length==1
    |_,_=>false)
   |_,_=>false)
  |_,_,_=>false
 |.kx sz bytes x y,.call c=>match c.callee,c.args.toList,c.argTypes.toList with
  |.builtin .append,[a,b],[t,u]=>b7 x a&&b7 y b&&(match hY P t,hY P u with
   |some e,some e'=>e==e'&&(match oe P e,gh P e with
    |some z,some (s,dI)=>s==sz&&dI==bytes&&z.length==sz&&s !=0&&(bytes !=0)
    |_,_=>false)
   |_,_=>false)
  |_,_,_=>false
 |.dE k x,.convert s t a=>b7 x a&&(match P.underlying s,P.underlying t with
  |some _,some (.int k')=>decide (k=k')
  |_,_=>false)
 |.kG x,.convert s t a=>b7 x a&&(match P.underlying s,P.underlying t with
  |some (.slice e),some .string=>(match P.underlying e with|some (.int .u8)=>true|_=>false)
  |_,_=>false)
 |.idx x i,.index t a b=>b7 x a&&b7 i b&&(match P.underlying t with|some .string=>true|_=>false)
 |.mn x y,.call c=>match c.callee,c.args.toList with
  |.builtin .min,[a,b]=>b7 x a&&b7 y b
  |_,_=>false
 |.mx x y,.call c=>match c.callee,c.args.toList with
  |.builtin .max,[a,b]=>b7 x a&&b7 y b
  |_,_=>false
 |_,_=>false
section
section
variable {P:Program} {κ:Nat→FuncId} {w0:World} {cl0:dv} {S:St} {w:World} {g:Gh} {a:Act} {Γ:Env} {d:Nat}
theorem BX {v:AV} {x:Value} {m:Ms} (h:uy v x=true):RA w g m v x∧v.refs=[]:=by
 unfold uy at h;split at h
 ·simp at h;obtain ⟨rfl,rfl⟩:=h;exact ⟨.v _ _ _ (.int _ _),rfl⟩
 ·simp at h;subst h;exact ⟨.v _ _ _ (.bool _),rfl⟩
 ·rename_i s s';simp at h;obtain rfl:s=s':=ByteArray.ext h;exact ⟨.v _ _ _ (.str _),rfl⟩
 ·simp at h;obtain ⟨rfl,rfl⟩:=h;exact ⟨.nl _,rfl⟩
 ·exact ⟨.un _,rfl⟩
 ·simp at h;subst h;exact ⟨.a_ _ _ (by simp) (fun i a x h=>by simp at h),by simp [AV.refs,AV.cA]⟩
 ·cases h
theorem b8 (R:Rel w0 cl0 S a.tmps w g) {x:PX} {o:Operand} (h:b7 x o=true):RA w g S.ms (S.ev x) (a.eval o)∧Live S.ms (S.ev x):=by
 unfold b7 at h;split at h
 ·simp at h;subst h;exact ⟨R.av _,fun r hr=>R.eT _ r hr⟩
 ·have:=BX (w:=w) (g:=g) (m:=S.ms) h;exact ⟨this.1,fun r hr=>by simp [St.ev,this.2] at hr⟩
 ·simp at h;subst h;exact ⟨.v _ _ _ (.fn _),fun r hr=>by simp [St.ev,AV.refs] at hr⟩
 ·cases h
theorem nj {m:Ms} {k:Bool} {kd:IntKind} {n:Int} {x:Value} (h:RA w g m (.v k (.int kd n)) x):x=.int kd n:=by
 cases h with|v _ _ _ h=>cases h;rfl
theorem wG {m:Ms} {k b:Bool} {x:Value} (h:RA w g m (.v k (.bool b)) x):x=.bool b:=by
 cases h with|v _ _ _ h=>cases h;rfl
theorem sq {m:Ms} {k:Bool} {s:ByteArray} {x:Value} (h:RA w g m (.v k (.str s)) x):x=.string s:=by
 cases h with|v _ _ _ h=>cases h;rfl
theorem sJ {m:Ms} {v:AV} {n:Int} {x:Value} (ha:RA w g m v x) (h:v.asInt=some n):∃k,x=.int k n:=by
 unfold AV.asInt at h;split at h
 ·simp at h;subst h;exact ⟨_,nj ha⟩
 ·cases h
theorem w9 {m:Ms} {v:AV} {b:Bool} {x:Value} (ha:RA w g m v x) (h:v.asBool=some b):x=.bool b:=by
 unfold AV.asBool at h;split at h
 ·simp at h;subst h;exact wG ha
 ·cases h
def JH (P:Program) (w:World) (g:Gh) (m:Ms) (av:AV) (s:Sem Next):Prop:=
 ∃v,s.run P w=.ok (.value v) w∧RA w g m av v∧Live m av
theorem abf {m:Ms} {s:Sem Value} {v:Value} {av:AV} (h:s.run P w=.ok v w) (h1:RA w g m av v) (h2:Live m av):
 JH P w g m av (do pure (.value (←s))):=⟨v,by simp [h],h1,h2⟩
theorem jF {m:Ms} {k:Bool} {x:D}:Live m (.v k x):=fun r hr=>by simp [AV.refs] at hr
theorem Te {op:BinOp} {k k':IntKind} {x y:Int} {r:D} (h:oo op (.int k x) (.int k' y)=some r) (t:TypeId):
 ∃v,(zk op t (.int k x) (.int k' y)).run P w=.ok v w∧RO w g.cl false r v:=by
 simp only [oo] at h;cases op
 case shl|shr=>
  simp at h;obtain ⟨h0,rfl⟩:=h;simp only [zk,Op.shift];rw [if_neg (by omega)];exact ⟨_,rfl,.int _ _⟩
 case andNot=>simp at h
 case quo|rem=>
  by_cases hk:k=k'
  ·subst hk;simp at h;obtain ⟨h0,rfl⟩:=h;simp only [zk,Op.intDiv,ne_eq,not_true,if_false,if_neg h0];exact ⟨_,rfl,.int _ _⟩
  ·simp [hk] at h
 case add|sub|mul=>
  by_cases hk:k=k'
  ·subst hk;simp at h;subst h;simp only [zk,Op.intArith,ne_eq,not_true,if_false];exact ⟨_,rfl,.int _ _⟩
  ·simp [hk] at h
 case and|or|xor=>
  by_cases hk:k=k'
  ·subst hk;simp only [if_true,zH] at h;subst h;simp only [zk,Op.intBits,ne_eq,not_true,if_false];exact ⟨_,rfl,.int _ _⟩
  ·simp [hk] at h
 all_goals
  by_cases hk:k=k'
  ·subst hk;simp only [if_true,zH] at h;subst h;simp only [zk,Op.intCmp,ne_eq,not_true,if_false];exact ⟨_,rfl,.bool _⟩
  ·simp [hk] at h
theorem Wn {op:BinOp} {x y:ByteArray} {r:D} (h:oo op (.str x) (.str y)=some r) (t:TypeId):
 ∃v,(zk op t (.string x) (.string y)).run P w=.ok v w∧RO w g.cl false r v:=by
 simp only [oo] at h;cases op
 case add=>
  by_cases hc:((x.size+y.size:Nat):Int)>IntKind.i64.max
  ·rw [if_pos hc] at h;cases h
  ·rw [if_neg hc] at h;cases h;simp only [zk,Op.stringOp];rw [if_neg hc];exact ⟨_,rfl,.str _⟩
 case eql|neq|lss|leq|gtr|geq=>
  simp only [zH] at h;subst h;simp only [zk,Op.stringOp];exact ⟨_,rfl,.bool _⟩
 all_goals cases h
theorem VK {x y:Bool} {t:TypeId} (ht:P.underlying t=some .bool) (n:Nat):(Op.equalIn (n+1) t (.bool x) (.bool y)).run P w=.ok (x==y) w:=by
 simp [Op.equalIn,run_underlying ht]
theorem VJ {m:Ms}:∀(ks:List Nat) (fs:List Field) (i d:Nat) (xs ys:List AV) (vx vy:Array Value) (r:Bool),
 tT P i fs ks=true→oD ks xs ys=some r→
 (∀(q:Nat) (a:AV),xs[q]?=some a→∃x,vx[i+q]?=some x∧RA w g m a x)→(∀(q:Nat) (a:AV),ys[q]?=some a→∃x,vy[i+q]?=some x∧RA w g m a x)→
 (Op.eqFields (d+1) vx vy fs).run P w=.ok r w:=by
 intro ks;induction ks with
 |nil=>
  intro fs i d xs ys vx vy r hp he hx hy;cases fs with
  |nil=>
   cases xs<;>cases ys<;>simp [oD] at he;subst he;simp [Op.eqFields]
  |cons=>simp [tT] at hp
 |cons k ks ih=>
  intro fs i d xs ys vx vy r hp he hx hy;cases fs with
  |nil=>simp [tT] at hp
  |cons f fs=>
   simp only [tT,za,bne_iff_ne,ne_eq,beq_iff_eq] at hp;obtain ⟨⟨⟨hn,ho⟩,hk⟩,ve⟩:=hp
   have fH:∀a n_,xs=a::n_→∀(q:Nat) (a:AV),n_[q]?=some a→∃x,vx[i+1+q]?=some x∧RA w g m a x:=by
    intro a n_ e q b hb;subst e;have:=hx (q+1) b (by simpa using hb);rwa [show i+(q+1)=i+1+q from by omega] at this
   have DY:∀a n_,ys=a::n_→∀(q:Nat) (a:AV),n_[q]?=some a→∃x,vy[i+1+q]?=some x∧RA w g m a x:=by
    intro a n_ e q b hb;subst e;have:=hy (q+1) b (by simpa using hb);rwa [show i+(q+1)=i+1+q from by omega] at this
   have key:∀(u v:Value) (b r':Bool),vx[i]?=some u→vy[i]?=some v→(isAgg f.type).run P w=.ok false w→
    (Op.equalIn (d+1) f.type u v).run P w=.ok b w→(Op.eqFields (d+1) vx vy fs).run P w=.ok r' w→
    (Op.eqFields (d+1) vx vy (f::fs)).run P w=.ok (b&&r') w:=by
    intro u v b r' h1 h2 h3 h4 h5;simp only [Op.eqFields,hn,ne_eq,not_false_eq_true,if_true,Sem.run_bind,part,h3,Result.andThen_ok,zD,if_false,ho,h1,h2,Sem.run_pure,h4];cases b<;>simp [h5]
   unfold oD at he;split at he
   ·rename_i h;cases h
   ·rename_i h;cases h;split at he
    ·rename_i s_;split at he
     ·rename_i r' vd;cases he;subst s_;obtain ⟨u,g6,ji⟩:=hx 0 _ rfl;obtain ⟨v,lp,eM⟩:=hy 0 _ rfl;rw [nj ji] at g6;rw [nj eM] at lp;cases kN:P.underlying f.type with
      |none=>simp [kN] at hk
      |some t=>
       cases t<;>simp [kN] at hk;exact key _ _ _ _ g6 lp (by simp [isAgg,run_underlying kN]) (run_equalIn_int w d f.type _ _ _ _ kN) (ih fs (i+1) d _ _ vx vy r' ve vd (fH _ _ rfl) (DY _ _ rfl))
     ·cases he
    ·cases he
   ·rename_i h;cases h;split at he
    ·rename_i r' vd;cases he;obtain ⟨u,g6,ji⟩:=hx 0 _ rfl;obtain ⟨v,lp,eM⟩:=hy 0 _ rfl;rw [wG ji] at g6;rw [wG eM] at lp;cases kN:P.underlying f.type with
     |none=>simp [kN] at hk
     |some t=>
      cases t<;>simp [kN] at hk;exact key _ _ _ _ g6 lp (by simp [isAgg,run_underlying kN]) (run_equalIn_bool' w d f.type _ _ kN) (ih fs (i+1) d _ _ vx vy r' ve vd (fH _ _ rfl) (DY _ _ rfl))
    ·cases he
   ·rename_i h;cases h;split at he
    ·rename_i r' vd;cases he;obtain ⟨u,g6,ji⟩:=hx 0 _ rfl;obtain ⟨v,lp,eM⟩:=hy 0 _ rfl;rw [sq ji] at g6;rw [sq eM] at lp;cases kN:P.underlying f.type with
     |none=>simp [kN] at hk
     |some t=>
      cases t<;>simp [kN] at hk;exact key _ _ _ _ g6 lp (by simp [isAgg,run_underlying kN]) (run_equalIn_string w d f.type _ _ kN) (ih fs (i+1) d _ _ vx vy r' ve vd (fH _ _ rfl) (DY _ _ rfl))
    ·cases he
   ·cases he
theorem VL {t:TypeId} {ks:List Nat} (ht:Ja P t ks=true) {xs ys:List AV} {u v:Value} {m:Ms} {r:Bool}
 (h:oD ks xs ys=some r) (hx:RA w g m (.agg xs) u) (hy:RA w g m (.agg ys) v) {op:BinOp} {neg:Bool} (fG:op=if neg then .neq else .eql) (x y:Operand):
 (do eqGuard op t x y u v;zk op t u v:Sem Value).run P w=.ok (.bool (if neg then !r else r)) w:=by
 simp only [Ja,za,Bool.not_eq_true'] at ht;obtain ⟨⟨h1,h2⟩,h3⟩:=ht;cases hu:P.underlying t with
 |none=>simp [hu] at h3
 |some d=>
  cases d with
  |struct fs=>
   simp only [hu] at h3;have hf:P.underlying t=some (.struct (P.fieldsOf t)):=by simp [Program.fieldsOf,hu]
   have RH:P.fieldsOf t=fs:=by simp [Program.fieldsOf,hu]
   cases hx with
   |agg _ vx nH SW=>
    cases hy with
    |agg _ vy hly SY=>
     have he:(Op.equalIn 10000 t (.agg vx) (.agg vy)).run P w=.ok r w:=by
      rw [run_equalIn_agg w 9999 t vx vy hf h1,RH];refine VJ (g:=g) (m:=m) ks fs.toList 0 9998 xs ys vx vy r h3 h (fun q a ha=>?_) (fun q a ha=>?_)
      ·have hq:=bE ha;refine ⟨vx[q],by simp [show q<vx.size from by omega],SW q a _ ha (by simp [show q<vx.size from by omega])⟩
      ·have hq:=bE ha;refine ⟨vy[q],by simp [show q<vy.size from by omega],SY q a _ ha (by simp [show q<vy.size from by omega])⟩
     subst fG;simp only [Sem.run_bind,run_eqGuard_agg w _ t x y vx vy h2,Result.andThen_ok];cases neg
     ·simp only [zD,if_false,run_eql_struct w t vx vy,he,Result.andThen_ok]
     ·simp only [if_true,run_neq_struct w t vx vy,he,Result.andThen_ok]
  |_=>simp [hu] at h3
theorem TL {t e:TypeId} {ty:TypeId} {b:Option Addr} {n c:Nat} (ht:P.underlying t=some (.slice e)):
 (Builtin.len_ #[t] ty #[.slice b n c]).run P w=.ok (.int .i64 n) w:=by
 simp [Builtin.len_,run_underlying ht,goInt]
theorem TM {t:TypeId} {ty:TypeId} {s:ByteArray} (ht:P.underlying t=some .string):
 (Builtin.len_ #[t] ty #[.string s]).run P w=.ok (.int .i64 s.size) w:=by
 simp [Builtin.len_,run_underlying ht,goInt]
end
end
section
section
variable {P:Program} {κ:Nat→FuncId} {w0:World} {cl0:dv} {S:St} {w:World} {g:Gh} {a:Act} {Γ:Env} {d:Nat}
def fN (P:Program) (S:St) (w:World) (g:Gh) (a:Act) (av:AV) (rt:Option Rt) (m':Ms) (op:Op):Prop:=
 rt=none∧m'=S.ms∧∀o:Oper,o.op=op→JH P w g S.ms av (execOp a.eval o)
theorem UG (R:Rel w0 cl0 S a.tmps w g) {x:PX} {op:Op} {av:AV} {rt:Option Rt} {m':Ms} (hc:bf P κ (.mv x) op=true)
 (h:ay Γ S.ev d S.ms (.mv x)=some (av,rt,m')):fN P S w g a av rt m' op:=by
 simp [ay] at h;obtain ⟨rfl,rfl,rfl⟩:=h;refine ⟨rfl,rfl,fun o ho=>?_⟩;cases op<;>simp [bf] at hc
 all_goals
  have:=b8 R hc;exact ⟨_,by simp [execOp,ho],this.1,this.2⟩
theorem UK (R:Rel w0 cl0 S a.tmps w g) {c x y:PX} {op:Op} {av:AV} {rt:Option Rt} {m':Ms} (hc:bf P κ (.pick c x y) op=true)
 (h:ay Γ S.ev d S.ms (.pick c x y)=some (av,rt,m')):fN P S w g a av rt m' op:=by
 simp only [ay] at h;split at h
 ·rename_i t ht;simp at h;obtain ⟨rfl,rfl,rfl⟩:=h;refine ⟨rfl,rfl,fun o ho=>?_⟩;cases op<;>simp [bf] at hc;obtain ⟨⟨h1,h2⟩,h3⟩:=hc;have e1:=w9 (b8 R h1).1 ht;have e2:=b8 R h2;have e3:=b8 R h3;cases t
  ·exact ⟨_,by simp [execOp,ho,e1,asBool],e3.1,e3.2⟩
  ·exact ⟨_,by simp [execOp,ho,e1,asBool],e2.1,e2.2⟩
 ·cases h
theorem Uh (R:Rel w0 cl0 S a.tmps w g) {w_:BinOp} {x y:PX} {op:Op} {av:AV} {rt:Option Rt} {m':Ms} (hc:bf P κ (.bin w_ x y) op=true)
 (h:ay Γ S.ev d S.ms (.bin w_ x y)=some (av,rt,m')):fN P S w g a av rt m' op:=by
 simp only [ay] at h;split at h
 ·rename_i k1 d1 k2 d2 hx hy;split at h
  ·rename_i r hr;simp at h;obtain ⟨rfl,rfl,rfl⟩:=h;refine ⟨rfl,rfl,fun o ho=>?_⟩;cases op with
   |binOp aaS t ox oy ty=>?_
   |_=>simp [bf] at hc
   simp [bf] at hc;obtain ⟨⟨rfl,h2⟩,h3⟩:=hc;have e2:=(b8 R h2).1;have e3:=(b8 R h3).1;rw [hx] at e2;rw [hy] at e3;cases d1 with
   |int=>
    cases d2 with
    |int=>
     obtain ⟨v,h5,h6⟩:=Te (P:=P) (w:=w) (g:=g) hr t;exact ⟨v,by simp [execOp,ho,nj e2,nj e3,eqGuard_at_int,h5],.v _ _ _ h6,jF⟩
    |_=>simp [oo] at hr
   |str=>
    cases d2 with
    |str=>
     obtain ⟨v,h5,h6⟩:=Wn (P:=P) (w:=w) (g:=g) hr t;exact ⟨v,by simp [execOp,ho,sq e2,sq e3,eqGuard_at_string,h5],.v _ _ _ h6,jF⟩
    |_=>simp [oo] at hr
   |_=>simp [oo] at hr
  ·cases h
 ·cases h
theorem Ut (R:Rel w0 cl0 S a.tmps w g) {neg:Bool} {ks:List Nat} {x y:PX} {op:Op} {av:AV} {rt:Option Rt} {m':Ms}
 (hc:bf P κ (.eqs neg ks x y) op=true) (h:ay Γ S.ev d S.ms (.eqs neg ks x y)=some (av,rt,m')):fN P S w g a av rt m' op:=by
 simp only [ay] at h;split at h
 ·rename_i xs ys hx hy;split at h
  ·rename_i r hr;simp at h;obtain ⟨rfl,rfl,rfl⟩:=h;refine ⟨rfl,rfl,fun o ho=>?_⟩;cases op<;>simp [bf] at hc;obtain ⟨⟨⟨h1,h2⟩,h3⟩,h4⟩:=hc;have e2:=(b8 R h2).1;have e3:=(b8 R h3).1;rw [hx] at e2;rw [hy] at e3;rename_i w_ t ox oy ty;have:=VL h4 hr e2 e3 (by simpa using h1) ox oy;simp only [Sem.run_bind] at this;exact ⟨_,by simp only [execOp,ho,Sem.run_bind,this,Result.andThen_ok,Sem.run_pure],.v _ _ _ (.bool _),jF⟩
  ·cases h
 ·cases h
theorem Us (R:Rel w0 cl0 S a.tmps w g) {neg:Bool} {x y:PX} {op:Op} {av:AV} {rt:Option Rt} {m':Ms}
 (hc:bf P κ (.pU neg x y) op=true) (h:ay Γ S.ev d S.ms (.pU neg x y)=some (av,rt,m')):fN P S w g a av rt m' op:=by
 simp only [ay] at h;split at h
 ·rename_i b1 b2 hx hy;simp at h;obtain ⟨rfl,rfl,rfl⟩:=h;refine ⟨rfl,rfl,fun o ho=>?_⟩;cases op<;>simp [bf] at hc;obtain ⟨⟨⟨h1,h2⟩,h3⟩,h4⟩:=hc;have e2:=w9 (b8 R h2).1 hx;have e3:=w9 (b8 R h3).1 hy;rename_i w_ t ox oy ty
  have hu:P.underlying t=some .bool:=by
   cases hu:P.underlying t with
   |none=>simp [hu] at h4
   |some u=>cases u<;>simp [hu] at h4 ⊢
  have he:(Op.equal t (.bool b1) (.bool b2)).run P w=.ok (b1==b2) w:=VK hu 9999;subst h1;cases neg
  ·exact ⟨_,by simp [execOp,ho,e2,e3,eqGuard_at_bool,zk,he],.v _ _ _ (.bool _),jF⟩
  ·exact ⟨_,by simp [execOp,ho,e2,e3,eqGuard_at_bool,zk,he],.v _ _ _ (.bool _),jF⟩
 ·cases h
theorem UP (R:Rel w0 cl0 S a.tmps w g) {Bo:UnOp} {x:PX} {op:Op} {av:AV} {rt:Option Rt} {m':Ms}
 (hc:bf P κ (.un Bo x) op=true) (h:ay Γ S.ev d S.ms (.un Bo x)=some (av,rt,m')):fN P S w g a av rt m' op:=by
 simp only [ay] at h;split at h
 ·rename_i k d1 hx;split at h
  ·rename_i r hr;simp at h;obtain ⟨rfl,rfl,rfl⟩:=h;refine ⟨rfl,rfl,fun o ho=>?_⟩;cases op<;>simp [bf] at hc;obtain ⟨rfl,h2⟩:=hc;have e2:=(b8 R h2).1;rw [hx] at e2;cases d1 with
   |int=>
    cases Bo<;>simp [wP] at hr;subst hr;exact ⟨_,by simp [execOp,ho,nj e2,Op.unary,Op.intArith],.v _ _ _ (.int _ _),jF⟩
   |bool=>
    cases Bo<;>simp [wP] at hr;subst hr;exact ⟨_,by simp [execOp,ho,wG e2,Op.unary],.v _ _ _ (.bool _),jF⟩
   |_=>simp [wP] at hr
  ·cases h
 ·cases h
theorem qO {b:Builtin} {args:List Operand} {OJ:List TypeId} {c:Call} (h1:c.callee=.builtin b) (h2:c.args.toList=args) (h3:c.argTypes.toList=OJ)
 {o:Oper} (ho:o.op=.call c):∃cs,execOp a.eval o=builtin b OJ.toArray o.type cs (args.map a.eval).toArray:=by
 obtain ⟨cal,ar,JW⟩:=c;obtain ⟨ar⟩:=ar;obtain ⟨JW⟩:=JW;simp only at h1 h2 h3;subst h1 h2 h3;refine ⟨(ar.toArray.map fun|.const _=>true|_=>false),?_⟩;simp only [execOp,ho,resolve,pure_bind,invoke,List.map_toArray];rfl
theorem UB (R:Rel w0 cl0 S a.tmps w g) {x:PX} {op:Op} {av:AV} {rt:Option Rt} {m':Ms}
 (hc:bf P κ (.len x) op=true) (h:ay Γ S.ev d S.ms (.len x)=some (av,rt,m')):fN P S w g a av rt m' op:=by
 cases op with
 |call c=>?_
 |_=>simp [bf] at hc
 simp only [bf] at hc;split at hc
 ·rename_i a1 t1 lf ew oV;simp only [za] at hc;obtain ⟨h1,h2⟩:=hc;have e1:=(b8 R h1).1;simp only [ay] at h;split at h
  ·rename_i sz es nE;simp at h;obtain ⟨rfl,rfl,rfl⟩:=h;refine ⟨rfl,rfl,fun o ho=>?_⟩;obtain ⟨cs,hx⟩:=qO lf ew oV ho;obtain ⟨b,cap,hv,_⟩:=Cn R e1 nE;cases hu:P.underlying t1 with
   |none=>simp [hu] at h2
   |some u=>
    cases u<;>simp [hu] at h2;rw [hx];refine ⟨_,?_,.v _ _ _ (.int _ _),jF⟩;simp [builtin,hv,TL hu]
  ·cases h
 ·cases hc
theorem UC (R:Rel w0 cl0 S a.tmps w g) {x:PX} {op:Op} {av:AV} {rt:Option Rt} {m':Ms}
 (hc:bf P κ (.lens x) op=true) (h:ay Γ S.ev d S.ms (.lens x)=some (av,rt,m')):fN P S w g a av rt m' op:=by
 cases op with
 |call c=>?_
 |_=>simp [bf] at hc
 simp only [bf] at hc;split at hc
 ·rename_i a1 t1 lf ew oV;simp only [za] at hc;obtain ⟨h1,h2⟩:=hc;have e1:=(b8 R h1).1;simp only [ay] at h;split at h
  ·rename_i k s nE;simp at h;obtain ⟨rfl,rfl,rfl⟩:=h;refine ⟨rfl,rfl,fun o ho=>?_⟩;obtain ⟨cs,hx⟩:=qO lf ew oV ho;rw [nE] at e1;cases hu:P.underlying t1 with
   |none=>simp [hu] at h2
   |some u=>
    cases u<;>simp [hu] at h2;rw [hx];refine ⟨_,?_,.v _ _ _ (.int _ _),jF⟩;simp [builtin,sq e1,TM hu]
  ·cases h
 ·cases hc
theorem UA (R:Rel w0 cl0 S a.tmps w g) {agg:Bool} {n:Nat} {x:PX} {op:Op} {av:AV} {rt:Option Rt} {m':Ms}
 (hc:bf P κ (.ld agg n x) op=true) (h:ay Γ S.ev d S.ms (.ld agg n x)=some (av,rt,m')):fN P S w g a av rt m' op:=by
 cases op with
 |load t ox=>?_
 |_=>simp [bf] at hc
 simp only [bf] at hc;split at hc
 ·rename_i JQ n' dI ha hs;simp only [za,beq_iff_eq] at hc;obtain ⟨⟨rfl,rfl⟩,h1⟩:=hc;have e1:=(b8 R h1).1;simp only [ay] at h;split at h
  ·rename_i l hl;obtain ⟨b,off,xs,hv,iV,sV,dp,ch⟩:=MV R e1 hl
   have cg:∀w1,(sizeOf t).run P w1=.ok n w1:=by
    intro w1;unfold gh at hs;split at hs
    ·rename_i i hi;simp at hs;simp [sizeOf,typeInfo,hi,hs.1]
    ·cases hs
   unfold sH at ha;cases agg
   ·have jf:(isAgg t).run P w=.ok false w:=by
     cases hu:P.underlying t with
     |none=>simp [hu] at ha
     |some u=>cases u<;>simp [hu] at ha<;>simp [isAgg,run_underlying hu]
    simp only [zD,if_false] at h;split at h
    ·rename_i a1;simp at h;obtain ⟨rfl,rfl,rfl⟩:=h;refine ⟨rfl,rfl,fun o ho=>?_⟩;simp at sV;subst sV
     obtain ⟨x1,rfl⟩:∃x1,xs=[x1]:=by
      match xs,iV with
      |[x1],_=>exact ⟨x1,rfl⟩
     have h3:=ch 0 a1 x1 rfl rfl;have h4:=dp 0 x1 rfl;exact ⟨x1,by simp [execOp,ho,Instr.loadAt,hv,Instr.sureAddr,loadVar,jf,show w.cell? ⟨b,off,none⟩=some x1 from h4],h3.1,h3.2⟩
    ·cases h
   ·have jf:(isAgg t).run P w=.ok true w:=by
     cases hu:P.underlying t with
     |none=>simp [hu] at ha
     |some u=>cases u<;>simp [hu] at ha<;>simp [isAgg,run_underlying hu]
    simp at h;obtain ⟨rfl,rfl,rfl⟩:=h;refine ⟨rfl,rfl,fun o ho=>?_⟩;have Sd:=vE P iV dp;refine ⟨.agg xs.toArray,by simp [execOp,ho,Instr.loadAt,hv,Instr.sureAddr,loadVar,jf,cg w,Sd],.agg _ _ (by simp;omega) (fun i av x h1 h2=>(ch i av x h1 (by simpa using h2)).1),?_⟩;intro r hr;simp only [AV.refs] at hr
    have:∀(l:List AV),(∀(k:Nat) av,l[k]?=some av→Live S.ms av)→r∈AV.cA l→((S.ms r).1).isSome:=by
     intro l;induction l with
     |nil=>intro _ h;simp [AV.cA] at h
     |cons b bs ih=>
      intro h1 h2;simp only [AV.cA,zS] at h2;rcases h2 with h2|h2
      ·exact h1 0 b rfl r h2
      ·exact ih (fun k av hk=>h1 (k+1) av hk) h2
    refine this l (fun k av hk=>?_) hr;have ae:=bE hk;exact (ch k av xs[k] hk (by simp [show k<xs.length from by omega])).2
  ·cases h
 ·cases hc
end
end
section
section
variable {P:Program} {κ:Nat→FuncId} {w0:World} {cl0:dv} {S:St} {w:World} {g:Gh} {a:Act} {Γ:Env} {d:Nat}
theorem UI (R:Rel w0 cl0 S a.tmps w g) {x:PX} {op:Op} {av:AV} {rt:Option Rt} {m':Ms}
 (hc:bf P κ (.qn x) op=true) (h:ay Γ S.ev d S.ms (.qn x)=some (av,rt,m')):fN P S w g a av rt m' op:=by
 cases op with
 |nilCheck ox=>?_
 |_=>simp [bf] at hc
 simp only [bf] at hc;have e1:=b8 R hc;simp only [ay] at h;split at h
 ·rename_i r j hx;simp at h;obtain ⟨rfl,rfl,rfl⟩:=h;refine ⟨rfl,rfl,fun o ho=>?_⟩;rw [hx] at e1;obtain ⟨h1,h2⟩:=e1;generalize hv:a.eval ox=v at h1;cases h1 with
  |bx=>exact ⟨_,by simp [execOp,ho,hv],.bx _ _,h2⟩
 ·rename_i k d0 ds hx;simp at h;obtain ⟨rfl,rfl,rfl⟩:=h;refine ⟨rfl,rfl,fun o ho=>?_⟩;rw [hx] at e1;obtain ⟨h1,h2⟩:=e1;generalize hv:a.eval ox=v at h1;have h0:=h1;cases h1 with
  |v _ _ _ hr=>
   cases hr with
   |rp _ b=>exact ⟨_,by simp [execOp,ho,hv],h0,h2⟩
 ·rename_i hx;simp at h;obtain ⟨rfl,rfl,rfl⟩:=h;refine ⟨rfl,rfl,fun o ho=>?_⟩;rw [hx] at e1;obtain ⟨h1,h2⟩:=e1;generalize hv:a.eval ox=v at h1;have h0:=h1;cases h1 with
  |ad=>exact ⟨_,by simp [execOp,ho,hv],h0,h2⟩
 ·rename_i hx;simp at h;obtain ⟨rfl,rfl,rfl⟩:=h;refine ⟨rfl,rfl,fun o ho=>?_⟩;rw [hx] at e1;obtain ⟨h1,h2⟩:=e1;generalize hv:a.eval ox=v at h1;have h0:=h1;cases h1 with
  |ra=>exact ⟨_,by simp [execOp,ho,hv],h0,h2⟩
 ·cases h
theorem Jh {t:TypeId} {f off s:Nat} (hf:qV P t f=some (off,s)) (hs:s≠0) (b o:Nat):
 (Instr.fieldAt t (.pointer (some ⟨b,o,none⟩)) f).run P w=.ok (.pointer (some ⟨b,o+off,none⟩)) w:=by
 unfold qV at hf;split at hf
 ·rename_i fs hu;split at hf
  ·rename_i fd oG;split at hf
   ·rename_i i hi;simp at hf;obtain ⟨rfl,rfl⟩:=hf;simp [Instr.fieldAt,run_underlying hu,oG,Instr.sureAddr,fieldPlace,sizeOf,typeInfo,hi,hs,Addr.add_lit]
   ·cases hf
  ·cases hf
 ·cases hf
theorem Uv (R:Rel w0 cl0 S a.tmps w g) {x:PX} {off:Nat} {op:Op} {av:AV} {rt:Option Rt} {m':Ms}
 (hc:bf P κ (.bo x off) op=true) (h:ay Γ S.ev d S.ms (.bo x off)=some (av,rt,m')):fN P S w g a av rt m' op:=by
 cases op with
 |fieldAddr t ox f=>?_
 |_=>simp [bf] at hc
 simp only [bf] at hc;split at hc
 ·rename_i tu s hf;simp only [za,beq_iff_eq,bne_iff_ne,ne_eq] at hc;obtain ⟨⟨rfl,hc⟩,hs⟩:=hc;have e1:=b8 R hc;simp only [ay] at h;split at h
  ·rename_i r j hx;simp at h;obtain ⟨rfl,rfl,rfl⟩:=h;refine ⟨rfl,rfl,fun o ho=>?_⟩;rw [hx] at e1;obtain ⟨h1,h2⟩:=e1;generalize hv:a.eval ox=v at h1;cases h1 with
   |bx=>exact ⟨_,by simp [execOp,ho,hv,Jh hf hs],.bx _ _,h2⟩
  ·rename_i r j p sz i c hx;simp at h;obtain ⟨rfl,rfl,rfl⟩:=h;refine ⟨rfl,rfl,fun o ho=>?_⟩;rw [hx] at e1;obtain ⟨h1,h2⟩:=e1;generalize hv:a.eval ox=v at h1;cases h1 with
   |ad _ _ _ _ _ _ b o1 hh=>
    refine ⟨_,by simp [execOp,ho,hv,Jh hf hs],.ad _ _ _ _ _ _ b (o1+off) fun hk=>?_,h2⟩;have:=hh hk;unfold qN at this ⊢;split at this
    ·simp at this;simp [this];omega
    ·cases this
  ·rename_i k sz es i c hx;simp at h;obtain ⟨rfl,rfl,rfl⟩:=h;refine ⟨rfl,rfl,fun o ho=>?_⟩;rw [hx] at e1;obtain ⟨h1,h2⟩:=e1;generalize hv:a.eval ox=v at h1;cases h1 with
   |ra _ _ _ _ _ b M8 cap br hi=>
    exact ⟨_,by simp only [execOp,ho,hv,Sem.run_bind,Jh hf hs,Result.andThen_ok,Sem.run_pure];rw [zW],.ra _ _ _ _ _ b M8 cap br hi,h2⟩
  ·cases h
 ·cases hc
theorem Ji {t e:TypeId} {s dI:Nat} (ht:hY P t=some e) (hs:gh P e=some (s,dI)) {k:IntKind} {n:Int} {b o len cap:Nat}
 (h0:0≤n) (h1:n<len):(Instr.indexAt t (.slice (some ⟨b,o,none⟩) len cap) (.int k n)).run P w=.ok (.pointer (some ⟨b,o+n.toNat*s,none⟩)) w:=by
 unfold hY at ht;split at ht
 ·rename_i e' hu;simp at ht;subst ht;unfold gh at hs;split at hs
  ·rename_i i hi;simp at hs;obtain ⟨rfl,rfl⟩:=hs;simp [Instr.indexAt,asIntOf,run_underlying hu,h0,h1,sizeOf,typeInfo,hi,Addr.add_lit]
  ·cases hs
 ·cases ht
theorem Uy (R:Rel w0 cl0 S a.tmps w g) {sz:Nat} {x i:PX} {op:Op} {av:AV} {rt:Option Rt} {m':Ms}
 (hc:bf P κ (.cf sz x i) op=true) (h:ay Γ S.ev d S.ms (.cf sz x i)=some (av,rt,m')):fN P S w g a av rt m' op:=by
 cases op with
 |indexAddr t ox oi=>?_
 |_=>simp [bf] at hc
 simp only [bf] at hc;split at hc
 ·rename_i e he;split at hc
  ·rename_i s dI hs;simp only [za,beq_iff_eq] at hc;obtain ⟨⟨rfl,mH⟩,qb⟩:=hc;have e1:=b8 R mH;have e2:=b8 R qb;simp only [ay] at h;split at h
   ·rename_i n hn;obtain ⟨k,hk⟩:=sJ e2.1 hn;split at h
    ·rename_i kk ec es hx;split at h
     ·rename_i dA;obtain ⟨h0,h1,rfl⟩:=dA;simp at h;obtain ⟨rfl,rfl,rfl⟩:=h;refine ⟨rfl,rfl,fun o ho=>?_⟩;rw [hx] at e1;obtain ⟨h2,h3⟩:=e1;generalize hv:a.eval ox=v at h2;cases h2 with
      |v _ _ _ br=>
       cases br with
       |emp=>simp at h1;omega
       |sl _ _ b off cap bq hl cz cC j6=>
        refine ⟨.pointer (some ⟨b,off+n.toNat*ec+0,none⟩),?_,.ra _ _ _ _ 0 b off cap (.sl _ _ b off cap bq hl cz cC j6) (by omega),fun r hr=>by simp [AV.refs] at hr⟩;simp only [execOp,ho,hv,hk,Sem.run_bind,Ji he hs h0 h1,Result.andThen_ok,Sem.run_pure,Nat.add_zero]
     ·cases h
    ·rename_i r j p hx;split at h
     ·rename_i ec es bI;split at h
      ·rename_i dA;obtain ⟨h0,h1,rfl⟩:=dA;simp at h;obtain ⟨rfl,rfl,rfl⟩:=h;refine ⟨rfl,rfl,fun o ho=>?_⟩;rw [hx] at e1;obtain ⟨h2,h3⟩:=e1;generalize hv:a.eval ox=v at h2;cases h2 with
       |pl _ _ _ _ _ _ hh=>
        obtain ⟨lP,cw,d0,cj,_⟩:=gl bI;obtain ⟨x0,jj⟩:=R.at bI;have ia:=hh lP;have ib:=jj.iR;subst ib;generalize hg:g.hd (r+1) j p=v0 at jj ia;cases jj with
        |nil=>simp at h1;omega
        |sl _ _ _ b off cap vals E cq bq hl cz RQ hN gY=>
         rw [ia] at hv;refine ⟨.pointer (some ⟨b,off+n.toNat*ec,none⟩),?_,.ad _ _ _ _ _ _ b _ fun _=>?_,fun r1 hr=>?_⟩
         ·simp only [execOp,ho,hv,hk,Sem.run_bind,Ji he hs h0 h1,Result.andThen_ok,Sem.run_pure]
         ·simp [hg,qN]
         ·simp [AV.refs] at hr;subst hr;exact tj cj
      ·cases h
     ·cases h
    ·rename_i r j p ec lo hi hx;split at h
     ·rename_i es q_;split at h
      ·rename_i dA;obtain ⟨h0,h1,rfl⟩:=dA;simp at h;obtain ⟨rfl,rfl,rfl⟩:=h;refine ⟨rfl,rfl,fun o ho=>?_⟩;obtain ⟨mC,bI,Sh,mL,rfl⟩:=xk q_;rw [hx] at e1;obtain ⟨h2,h3⟩:=e1;generalize hv:a.eval ox=v at h2;have hlen:((mC.take hi).drop lo).length=hi-lo:=by simp;omega
       rw [hlen] at h1;cases h2 with
       |rg _ _ _ _ _ _ _ _ _ hh=>
        obtain ⟨lP,cw,d0,cj,_⟩:=gl bI;obtain ⟨x0,jj⟩:=R.at bI;have ia:=hh lP;have ib:=jj.iR;subst ib;generalize hg:g.hd (r+1) j p=v0 at jj ia;cases jj with
        |nil=>simp at mL;omega
        |sl _ _ _ b off cap vals E cq bq hl cz RQ hN gY=>
         have bm:cap≠lo:=by omega
         simp only [iY,if_neg bm,zL,Addr.add_lit] at ia;rw [ia] at hv;refine ⟨.pointer (some ⟨b,off+lo*ec+n.toNat*ec,none⟩),?_,.ad _ _ _ _ _ _ b _ fun _=>?_,fun r1 hr=>?_⟩
         ·simp only [execOp,ho,hv,hk,Sem.run_bind,Ji he hs h0 h1,Result.andThen_ok,Sem.run_pure]
         ·simp [hg,qN,zw];omega
         ·simp [AV.refs] at hr;subst hr;exact tj cj
      ·cases h
     ·cases h
    ·cases h
   ·cases h
  ·cases hc
 ·cases hc
theorem Uu (R:Rel w0 cl0 S a.tmps w g) {x:PX} {k:Nat} {op:Op} {av:AV} {rt:Option Rt} {m':Ms}
 (hc:bf P κ (.ext x k) op=true) (h:ay Γ S.ev d S.ms (.ext x k)=some (av,rt,m')):fN P S w g a av rt m' op:=by
 cases op with
 |extract ox k'=>?_
 |_=>simp [bf] at hc
 simp only [bf,za,beq_iff_eq] at hc;obtain ⟨hc,rfl⟩:=hc;have e1:=b8 R hc;simp only [ay] at h;split at h
 ·rename_i cs hx;split at h
  ·rename_i a1 gU;simp at h;obtain ⟨rfl,rfl,rfl⟩:=h;refine ⟨rfl,rfl,fun o ho=>?_⟩;rw [hx] at e1;obtain ⟨h1,h2⟩:=e1;generalize hv:a.eval ox=v at h1;cases h1 with
   |a_ _ vs hl ch=>
    have ae:=bE gU;have hg:vs[k]?=some vs[k]:=by simp [show k<vs.size from by omega]
    exact ⟨vs[k],by simp [execOp,ho,hv,Instr.extract,hg],ch k a1 _ gU hg,fun r hr=>h2 r (by simpa [AV.refs] using vG gU hr)⟩
  ·cases h
 ·cases h
theorem Ux (R:Rel w0 cl0 S a.tmps w g) {x:PX} {k:Nat} {op:Op} {av:AV} {rt:Option Rt} {m':Ms}
 (hc:bf P κ (.qW x k) op=true) (h:ay Γ S.ev d S.ms (.qW x k)=some (av,rt,m')):fN P S w g a av rt m' op:=by
 cases op with
 |field t ox f=>?_
 |_=>simp [bf] at hc
 simp only [bf] at hc;split at hc
 ·rename_i fs hu;split at hc
  ·rename_i fd oG;simp only [za,beq_iff_eq] at hc;obtain ⟨⟨rfl,hc⟩,ha⟩:=hc;have e1:=b8 R hc
   have jf:(isAgg fd.type).run P w=.ok false w:=by
    unfold sH at ha;cases hu:P.underlying fd.type with
    |none=>simp [hu] at ha
    |some u=>cases u<;>simp [hu] at ha<;>simp [isAgg,run_underlying hu]
   simp only [ay] at h;split at h
   ·rename_i cs hx;split at h
    ·rename_i a1 gU;simp at h;obtain ⟨rfl,rfl,rfl⟩:=h;refine ⟨rfl,rfl,fun o ho=>?_⟩;rw [hx] at e1;obtain ⟨h1,h2⟩:=e1;generalize hv:a.eval ox=v at h1;cases h1 with
     |agg _ vs hl ch=>
      have ae:=bE gU;have hg:vs[fd.offset]?=some vs[fd.offset]:=by simp [show fd.offset<vs.size from by omega]
      exact ⟨vs[fd.offset],by simp [execOp,ho,hv,Instr.field,run_underlying hu,oG,asAgg,part,jf,hg],ch _ a1 _ gU hg,fun r hr=>h2 r (by simpa [AV.refs] using vG gU hr)⟩
    ·cases h
   ·cases h
  ·cases hc
 ·cases hc
theorem Uq (R:Rel w0 cl0 S a.tmps w g) {x:PX} {k:IntKind} {op:Op} {av:AV} {rt:Option Rt} {m':Ms}
 (hc:bf P κ (.dE k x) op=true) (h:ay Γ S.ev d S.ms (.dE k x)=some (av,rt,m')):fN P S w g a av rt m' op:=by
 cases op with
 |convert s t ox=>?_
 |_=>simp [bf] at hc
 simp only [bf,za] at hc;obtain ⟨mH,hc⟩:=hc;have e1:=b8 R mH;simp only [ay] at h;split at h
 ·rename_i kk k1 n hx;simp at h;obtain ⟨rfl,rfl,rfl⟩:=h;refine ⟨rfl,rfl,fun o ho=>?_⟩;rw [hx] at e1;have hv:=nj e1.1;split at hc
  ·rename_i u1 k' h1 h2;simp at hc;subst hc;refine ⟨.int k (k.wrap n),?_,.v _ _ _ (.int _ _),jF⟩;simp [execOp,ho,hv,convert,run_underlying h1,run_underlying h2,Conv.intToInt]
  ·cases hc
 ·cases h
theorem Uz (R:Rel w0 cl0 S a.tmps w g) {x i:PX} {op:Op} {av:AV} {rt:Option Rt} {m':Ms}
 (hc:bf P κ (.idx x i) op=true) (h:ay Γ S.ev d S.ms (.idx x i)=some (av,rt,m')):fN P S w g a av rt m' op:=by
 cases op with
 |index t ox oi=>?_
 |_=>simp [bf] at hc
 simp only [bf,za] at hc;obtain ⟨⟨mH,qb⟩,hc⟩:=hc;have e1:=b8 R mH;have e2:=b8 R qb;simp only [ay] at h;split at h
 ·rename_i kk s n hx hn;split at h
  ·rename_i h0;split at h
   ·rename_i b hb;simp at h;obtain ⟨rfl,rfl,rfl⟩:=h;refine ⟨rfl,rfl,fun o ho=>?_⟩;rw [hx] at e1;have hv:=sq e1.1;obtain ⟨k,hk⟩:=sJ e2.1 hn;cases hu:P.underlying t with
    |none=>simp [hu] at hc
    |some u=>
     cases u<;>simp [hu] at hc
     have uU:s[n.toNat]?=some b:=by
      rw [ByteArray.toList_eq] at hb;have ae:=bE hb;rw [zt ae] at hb;have Si:n.toNat<s.size:=by simpa using ae
      rw [getElem?_pos s n.toNat Si];have hd:s[n.toNat]=s.data[n.toNat]:=rfl;rw [hd];simpa using hb
     refine ⟨.int .u8 b.toNat,?_,.v _ _ _ (.int _ _),jF⟩;simp [execOp,ho,hv,hk,Instr.index,asIntOf,run_underlying hu,h0,uU]
   ·cases h
  ·cases h
 ·cases h
theorem UF (R:Rel w0 cl0 S a.tmps w g) {x y:PX} {op:Op} {av:AV} {rt:Option Rt} {m':Ms}
 (hc:bf P κ (.mn x y) op=true) (h:ay Γ S.ev d S.ms (.mn x y)=some (av,rt,m')):fN P S w g a av rt m' op:=by
 cases op with
 |call c=>?_
 |_=>simp [bf] at hc
 simp only [bf] at hc;split at hc
 ·rename_i a1 a2 lf ew;simp only [za] at hc;obtain ⟨h1,h2⟩:=hc;have e1:=(b8 R h1).1;have e2:=(b8 R h2).1;simp only [ay] at h;split at h
  ·rename_i k1 ka na k2 kb nb hx hy;simp at h;obtain ⟨rfl,rfl,rfl⟩:=h;refine ⟨rfl,rfl,fun o ho=>?_⟩;obtain ⟨cs,fH⟩:=qO (a:=a) lf ew rfl ho;rw [hx] at e1;rw [hy] at e2;rw [fH];refine ⟨_,?_,.v _ _ _ (.int _ _),jF⟩;simp [builtin,Builtin.min_,nj e1,nj e2,Builtin.min2]
  ·cases h
 ·cases hc
theorem UH (R:Rel w0 cl0 S a.tmps w g) {x y:PX} {op:Op} {av:AV} {rt:Option Rt} {m':Ms}
 (hc:bf P κ (.mx x y) op=true) (h:ay Γ S.ev d S.ms (.mx x y)=some (av,rt,m')):fN P S w g a av rt m' op:=by
 cases op with
 |call c=>?_
 |_=>simp [bf] at hc
 simp only [bf] at hc;split at hc
 ·rename_i a1 a2 lf ew;simp only [za] at hc;obtain ⟨h1,h2⟩:=hc;have e1:=(b8 R h1).1;have e2:=(b8 R h2).1;simp only [ay] at h;split at h
  ·rename_i k1 ka na k2 kb nb hx hy;simp at h;obtain ⟨rfl,rfl,rfl⟩:=h;refine ⟨rfl,rfl,fun o ho=>?_⟩;obtain ⟨cs,fH⟩:=qO (a:=a) lf ew rfl ho;rw [hx] at e1;rw [hy] at e2;rw [fH];refine ⟨_,?_,.v _ _ _ (.int _ _),jF⟩;simp [builtin,Builtin.max_,nj e1,nj e2,Builtin.max2]
  ·cases h
 ·cases hc
end
end
section
section
variable {P:Program} {κ:Nat→FuncId} {w0:World} {cl0:dv} {S:St} {w:World} {g:Gh} {a:Act} {Γ:Env} {d:Nat}
theorem Kd {n:Int} {eE k:Nat} (h:uv n eE=some k):0≤n∧n≤eE∧k=n.toNat:=by
 unfold uv at h;split at h
 ·rename_i hh;simp at h;exact ⟨hh.1,hh.2,h.symm⟩
 ·cases h
theorem run_sliceBound {v:Value} {n:Int} {y:Nat} {code:BoundsCode} (hv:∃k,v=.int k n) (h0:0≤n) (h1:n≤y):
 (Instr.sliceBound v y code).run P w=.ok n.toNat w:=by
 obtain ⟨k,rfl⟩:=hv;simp [Instr.sliceBound,asIntOf,h0,h1]
theorem yh (R:Rel w0 cl0 S a.tmps w g) {len cap:Nat} {lo hi:Option PX} {lX fT:Option Operand} {l h:Nat} (hlen:len≤cap) (hl:lI lo lX=true) (hh:lI hi fT=true)
 (he:kP len S.ev lo hi=some (l,h)) (Tg:Bool):l≤h∧h≤len∧(Instr.sliceBounds Tg len cap (lX.map a.eval) (fT.map a.eval) none).run P w=.ok (l,h,cap) w:=by
 unfold kP at he;split at he
 ·rename_i h1 kI;split at he
  ·rename_i l1 mN;simp at he;obtain ⟨rfl,rfl⟩:=he
   have H:h1≤len∧((fT=none∧h1=len)∨∃ox,fT=some ox∧∀code,(Instr.sliceBound (a.eval ox) cap code).run P w=.ok h1 w):=by
    cases hi with
    |none=>
     cases fT with
     |none=>simp at kI;subst kI;exact ⟨zm _,.inl ⟨rfl,rfl⟩⟩
     |some=>simp [lI] at hh
    |some x=>
     cases fT with
     |none=>simp [lI] at hh
     |some ox=>
      simp only [lI] at hh;have e:=(b8 R hh).1;simp only at kI;split at kI
      ·rename_i n hn;obtain ⟨b1,b2,b3⟩:=Kd kI;subst b3;exact ⟨by omega,.inr ⟨ox,rfl,fun code=>run_sliceBound (sJ e hn) b1 (by omega)⟩⟩
      ·cases kI
   have L:l1≤h1∧((lX=none∧l1=0)∨∃ox,lX=some ox∧∀code,(Instr.sliceBound (a.eval ox) h1 code).run P w=.ok l1 w):=by
    cases lo with
    |none=>
     cases lX with
     |none=>simp at mN;subst mN;exact ⟨Nat.zero_le _,.inl ⟨rfl,rfl⟩⟩
     |some=>simp [lI] at hl
    |some x=>
     cases lX with
     |none=>simp [lI] at hl
     |some ox=>
      simp only [lI] at hl;have e:=(b8 R hl).1;simp only at mN;split at mN
      ·rename_i n hn;obtain ⟨b1,b2,b3⟩:=Kd mN;subst b3;exact ⟨by omega,.inr ⟨ox,rfl,fun code=>run_sliceBound (sJ e hn) b1 b2⟩⟩
      ·cases mN
   refine ⟨L.1,H.1,?_⟩;rcases H.2 with ⟨rfl,rfl⟩|⟨oh,rfl,hH⟩<;>rcases L.2 with ⟨rfl,rfl⟩|⟨ol,rfl,hL⟩
   ·simp [Instr.sliceBounds]
   ·simp [Instr.sliceBounds,hL]
   ·simp [Instr.sliceBounds,hH]
   ·simp [Instr.sliceBounds,hH,hL]
  ·cases he
 ·cases he
theorem UM (R:Rel w0 cl0 S a.tmps w g) {x:PX} {lo hi:Option PX} {op:Op} {av:AV} {rt:Option Rt} {m':Ms}
 (hc:bf P κ (.su x lo hi) op=true) (h:ay Γ S.ev d S.ms (.su x lo hi)=some (av,rt,m')):fN P S w g a av rt m' op:=by
 cases op with
 |slice t ox lX fT mx=>?_
 |_=>simp [bf] at hc
 simp only [bf,za] at hc;obtain ⟨⟨⟨⟨hm,mH⟩,bq⟩,uQ⟩,hc⟩:=hc;obtain rfl:mx=none:=by cases mx<;>simp_all
 have e1:=b8 R mH;simp only [ay] at h;split at h
 ·rename_i k s hx;split at h
  ·rename_i l hh j7;simp at h;obtain ⟨rfl,rfl,rfl⟩:=h;refine ⟨rfl,rfl,fun o ho=>?_⟩;rw [hx] at e1;have hv:=sq e1.1;obtain ⟨_,_,hb⟩:=yh (P:=P) R (zm _) bq uQ j7 false;cases hu:P.underlying t with
   |none=>simp [hu] at hc
   |some u=>
    cases u<;>simp [hu] at hc;refine ⟨.string (s.extract l hh),?_,.v _ _ _ (.str _),jF⟩;simp [execOp,ho,hv,Instr.sliceAt,Instr.slice,run_underlying hu,hb]
  ·cases h
 ·cases h
theorem Jj {t e:TypeId} {s dI:Nat} (ht:hY P t=some e) (hs:gh P e=some (s,dI)) {v:Option Addr} {len cap l h:Nat} {lo hi:Option Value}
 (hb:(Instr.sliceBounds true len cap lo hi none).run P w=.ok (l,h,cap) w):
 (Instr.sliceAt t (.slice v len cap) lo hi none).run P w=.ok (iY (.slice v len cap) s l h) w:=by
 unfold hY at ht;split at ht
 ·rename_i e' hu;simp at ht;subst ht;unfold gh at hs;split at hs
  ·rename_i i hi;simp at hs;obtain ⟨rfl,rfl⟩:=hs;simp [Instr.sliceAt,Instr.slice,run_underlying hu,hb,sizeOf,typeInfo,hi,iY]
  ·cases hs
 ·cases ht
theorem NO {k:Bool} {sz:Nat} {es:List (List D)} {b:Option Addr} {len cap l h:Nat} (hr:RO w g.cl k (.sl sz es) (.slice b len cap)) (h1:l≤h) (h2:h≤es.length):
 len=es.length∧RO w g.cl k (.sl sz (cut es l h)) (iY (.slice b len cap) sz l h):=by
 have hlen:(cut es l h).length=h-l:=by simp [cut];omega
 cases hr with
 |emp=>
  obtain rfl:h=0:=by simpa using h2
  obtain rfl:l=0:=by omega
  refine ⟨rfl,?_⟩;simp only [cut,iY,zV,List.drop_nil,Nat.sub_self];exact .emp _ _ _
 |sl _ _ b off _ bq hl cz cC hk=>
  refine ⟨rfl,?_⟩;by_cases hz:h=l
  ·subst hz;have:cut es h h=[]:=zz (by omega);rw [this];simp only [iY,Nat.sub_self];exact .emp _ _ _
  ·have bm:cap≠l:=by omega
   simp only [iY,if_neg bm,zL,Addr.add_lit];rw [←hlen];refine .sl _ _ b (off+l*sz) _ bq (fun e he=>hl e (zo (zy he))) (by omega) (fun i j hi hj=>?_) (fun i j e d x he hd hx=>?_)
   ·have:=cC (l+i) j (by omega) hj;rwa [show off+(l+i)*sz+j=off+l*sz+i*sz+j from by rw [zw];omega] at this
   ·have hi:=bE he;simp only [cut,zh] at he;rw [zd (by omega)] at he;refine hk (l+i) j e d x he hd ?_;rwa [show off+(l+i)*sz+j=off+l*sz+i*sz+j from by rw [zw];omega]
theorem UL (R:Rel w0 cl0 S a.tmps w g) {n8:Nat} {x:PX} {lo hi:Option PX} {op:Op} {av:AV} {rt:Option Rt} {m':Ms}
 (hc:bf P κ (.eV n8 x lo hi) op=true) (h:ay Γ S.ev d S.ms (.eV n8 x lo hi)=some (av,rt,m')):fN P S w g a av rt m' op:=by
 cases op with
 |slice t ox lX fT mx=>?_
 |_=>simp [bf] at hc
 simp only [bf,za] at hc;obtain ⟨⟨⟨⟨hm,mH⟩,bq⟩,uQ⟩,hc⟩:=hc;obtain rfl:mx=none:=by cases mx<;>simp_all
 have e1:=b8 R mH;split at hc
 ·rename_i e he;split at hc
  ·rename_i s dI hs;simp at hc;subst hc;simp only [ay] at h;split at h
   ·rename_i k sz es hx;split at h
    ·rename_i l hh j7;split at h
     ·rename_i cg;subst cg;simp at h;obtain ⟨rfl,rfl,rfl⟩:=h;refine ⟨rfl,rfl,fun o ho=>?_⟩;rw [hx] at e1;obtain ⟨h1,h2⟩:=e1;generalize hv:a.eval ox=v at h1;cases h1 with
      |v _ _ _ br=>
       obtain ⟨b,n,c,rfl,oN⟩:∃b n c,v=.slice b n c∧n≤c:=by
        cases br with
        |emp=>exact ⟨_,_,_,rfl,Nat.zero_le _⟩
        |sl _ _ _ _ _ _ _ cz=>exact ⟨_,_,_,rfl,cz⟩
       have hle:=yh (P:=P) R (cap:=c) (by
        have:n=es.length:=by
         cases br with
         |emp=>rfl
         |sl=>rfl
        omega) bq uQ j7 true
       obtain ⟨hn,kL⟩:=NO br hle.1 hle.2.1;subst hn;refine ⟨_,?_,.v _ _ _ kL,jF⟩;have oR:=Jj he hs (v:=b) hle.2.2;simp [execOp,ho,hv,oR]
     ·cases h
    ·cases h
   ·rename_i sz hx;split at h
    ·rename_i lh j7;obtain ⟨l,hh⟩:=lh;simp at h;obtain ⟨rfl,rfl,rfl⟩:=h;refine ⟨rfl,rfl,fun o ho=>?_⟩;rw [hx] at e1;obtain ⟨h1,h2⟩:=e1;generalize hv:a.eval ox=v at h1;cases h1 with
     |nl=>
      have hle:=yh (P:=P) R (cap:=0) (zm _) bq uQ j7 true;have oR:=Jj he hs (v:=none) hle.2.2;obtain rfl:hh=0:=by omega
      obtain rfl:l=0:=by omega
      refine ⟨.slice none 0 0,?_,.nl _,fun r hr=>by simp [AV.refs] at hr⟩;simp [execOp,ho,hv,oR,iY]
    ·cases h
   ·rename_i r j p hx;split at h
    ·rename_i sz es bI;split at h
     ·rename_i l hh j7;split at h
      ·rename_i cg;subst cg;simp at h;obtain ⟨rfl,rfl,rfl⟩:=h;refine ⟨rfl,rfl,fun o ho=>?_⟩;rw [hx] at e1;obtain ⟨h1,h2⟩:=e1;generalize hv:a.eval ox=v at h1;cases h1 with
       |pl _ _ _ b1 n1 c1 kI=>
        obtain ⟨lP,cw,d0,cj,_⟩:=gl bI;obtain ⟨x0,jj⟩:=R.at bI;have ia:=kI lP;have ib:=jj.iR;subst ib
        obtain ⟨b,n,c,hg,oN,bm⟩:∃b n c,g.hd (r+1) j p=.slice b n c∧n≤c∧n=es.length:=by
         generalize g.hd (r+1) j p=v0 at jj;cases jj with
         |nil=>exact ⟨_,_,_,rfl,zm _,rfl⟩
         |sl _ _ _ b off cap=>exact ⟨_,_,_,rfl,by assumption,rfl⟩
        have hle:=yh (P:=P) R (cap:=c) (by omega) bq uQ j7 true;subst bm;have oR:=Jj he hs (v:=b) hle.2.2;rw [hg] at ia;refine ⟨iY (.slice b es.length c) sz l hh,?_,.rg _ _ _ _ _ _ _ _ _ fun _=>by rw [hg];rfl,fun r1 hr=>?_⟩
        ·simp [execOp,ho,hv,ia,oR]
        ·simp [AV.refs] at hr;subst hr;exact tj cj
      ·cases h
     ·cases h
    ·cases h
   ·cases h
  ·cases hc
 ·cases hc
theorem PA:∀(es:List (List D)) {bs:List UInt8},mr es=some bs→
 ∃ns:List Int,es=ns.map (fun n=>[D.int .u8 n])∧bs=ns.map (fun n=>zY n.toNat):=by
 intro es;induction es with
 |nil=>intro bs h;simp [mr] at h;subst h;exact ⟨[],rfl,rfl⟩
 |cons e es ih=>
  intro bs h;unfold mr at h;split at h
  ·rename_i h1;cases h1
  ·rename_i n l h1;cases h1;split at h
   ·rename_i bs' h2;simp at h;subst h;obtain ⟨ns,h3,h4⟩:=ih h2;exact ⟨n::ns,by simp [h3],by simp [h4]⟩
   ·cases h
  ·cases h
theorem Ur (R:Rel w0 cl0 S a.tmps w g) {x:PX} {op:Op} {av:AV} {rt:Option Rt} {m':Ms}
 (hc:bf P κ (.kG x) op=true) (h:ay Γ S.ev d S.ms (.kG x)=some (av,rt,m')):fN P S w g a av rt m' op:=by
 cases op with
 |convert src dst ox=>?_
 |_=>simp [bf] at hc
 simp only [bf,za] at hc;obtain ⟨mH,hc⟩:=hc;have e1:=(b8 R mH).1;simp only [ay] at h;split at h
 ·rename_i sz es nE;split at h
  ·rename_i bs eg;simp at h;obtain ⟨rfl,rfl,rfl⟩:=h;refine ⟨rfl,rfl,fun o ho=>?_⟩;split at hc
   ·rename_i e hs hd
    have he:P.underlying e=some (.int .u8):=by
     cases hu:P.underlying e with
     |none=>simp [hu] at hc
     |some u=>
      cases u with
      |int k=>cases k<;>simp [hu] at hc ⊢
      |_=>simp [hu] at hc
    obtain ⟨b,cap,hv,_,uP⟩:=Cn R e1 nE;obtain ⟨ns,rfl,rfl⟩:=PA es eg;refine ⟨.string (strOfNums ns),?_,.v _ _ _ (.str _),jF⟩;cases ns with
    |nil=>
     cases b with
     |none=>
      have:=run_convert_bytes_nil (P:=P) w src e hs he 0 cap dst hd;simp only [execOp,ho,hv,Sem.run_bind,zX,zU,this,Result.andThen_ok,Sem.run_pure];rfl
     |some a1=>
      obtain ⟨b1,o1,s1⟩:=a1;have hl:(loadCells ⟨b1,o1,s1⟩ 0).run P w=.ok (([]:List Int).map (Value.int .u8)).toArray w:=by simp [loadCells,loadCellsFrom]
      have h1:=run_convert_bytes_string w src dst e (some ⟨b1,o1,s1⟩) 0 cap hs he hd;have h2:=run_bytesToString w ⟨b1,o1,s1⟩ 0 cap [] hl;simp only [execOp,ho,hv,Sem.run_bind,zX,zU,h1,h2,Result.andThen_ok,Sem.run_pure];rfl
    |cons n ns=>
     obtain ⟨b',o',rfl,_,hlen,dp⟩:=uP (by simp);have cg:sz=1:=by have:=hlen [D.int .u8 n] (by simp);simpa using this.symm
     subst cg
     have:=run_convert_bytes_arg (P:=P) w src e hs he b' o' (n::ns).length cap (n::ns) rfl (fun i hi=>by
      have hg:((n::ns).map fun n=>[D.int .u8 n])[i]?=some [D.int .u8 ((n::ns).getD i 0)]:=by
       rw [ze,zt hi];simp [List.getD,zt hi]
      obtain ⟨x,hx,kh⟩:=dp i 0 _ _ hg rfl
      have vu:x=.int .u8 ((n::ns).getD i 0):=by
       rcases kh with ⟨k,h⟩|⟨_,_,_,h⟩<;>cases h<;>rfl
      rw [←vu];simpa using hx) dst hd
     simp only [execOp,ho,hv,Sem.run_bind,List.length_map,this,Result.andThen_ok,Sem.run_pure]
   ·cases hc
  ·cases h
 ·cases h
end
end
end Go.Proofs.YtohlfelngklcfaaGreat.OM
