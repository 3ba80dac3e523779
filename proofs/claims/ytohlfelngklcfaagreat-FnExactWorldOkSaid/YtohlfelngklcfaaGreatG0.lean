/- A part of the proof. -/
import Derived.Calls
import Derived.Orders
import Derived.Laws.Sem
import Derived.Laws.Cells
import Derived.Laws.Append
import Derived.Laws.AppendOwn
import Derived.Laws.MakeOwn
import Derived.Laws.CopyRow
import Derived.Laws.Entries
import Derived.Laws.StructEq
import Derived.Laws.BytesArg
import Derived.Laws.BytesString
set_option linter.all false
namespace Go.Proofs.YtohlfelngklcfaaGreat.OM
open Bool renaming and_eq_true→za,false_eq_true→zB
open Option renaming map_eq_some_iff→zb,isSome_iff_exists→zt,map_some→zK
open List renaming getElem?_take_of_lt→zd,getElem?_map→ze,getElem?_set_self→zf,getElem?_take→zg,getElem?_drop→zh,append_assoc→zi,getElem?_set_ne→zj,mem_of_mem_take→zo,getElem?_range→zq,getElem?_eq_getElem→zu,mem_of_mem_drop→zx,eq_nil_of_length_eq_zero→zy,prefix_append_right_inj→zz,getElem?_append_right→zC,getElem?_append_left→zG,length_take→zI,append_nil→zJ,replicate→zM,getElem?_eq_none→zN,length_append→zP,size_toArray→zR,mem_append→zS,length_nil→zU,take_nil→zV,map_nil→zX
open Go renaming binOp→zk
open _root_.Array renaming getD_eq_getD_getElem?→zm,getElem?_append_left→zD,getElem?_eq_none→zL,getElem?_toList→zO,append_assoc→zQ
open Nat renaming mul_le_mul_right→zn,le_refl→zp,add_mul→zw,lt_of_lt_of_le→zA,lt_or_ge→zH,add_assoc→zW
open BitVec renaming ofInt→zr
open Option.some renaming injEq→zF,inj→zT
open UInt8 renaming ofNat→zY
section
inductive D where
 |int (k:IntKind) (n:Int)
 |bool (b:Bool)
 |str (s:ByteArray)
 |sl (sz:Nat) (es:List (List D))
 |dead
 |fn (g:Nat) (ds:List D)
 |rp (ds:List D)
 deriving Inhabited
abbrev bQ:=List (Nat×Nat)
inductive C where
 |ro (k:Bool) (d:D)
 |own (d:D)
 |rf (r j:Nat)
 deriving Inhabited
inductive Rt where
 |aX (cs:List C)
 |bx (cs:List C)
 deriving Inhabited
inductive AV where
 |v (k:Bool) (d:D)
 |nl (sz:Nat)
 |agg (cs:List AV)
 |cf (cs:List AV)
 |pl (r j:Nat) (p:bQ)
 |rg (r j:Nat) (p:bQ) (sz lo hi:Nat)
 |bx (r j:Nat)
 |ad (r j:Nat) (p:bQ) (sz i c:Nat)
 |ra (k:Bool) (sz:Nat) (es:List (List D)) (i c:Nat)
 |fv (f r:Nat)
 |un
 deriving Inhabited
inductive V where
 |one (c:C)
 |st (cs:List C)
 |ptr (cs:List C)
 |cf (vs:List V)
 deriving Inhabited
def D.dt:D→Bool
 |.int ..|.bool _|.str _=>true
 |_=>false
def D.live:D→Bool
 |.dead=>false
 |_=>true
def D.kt:D→bQ→Option D
 |d,[]=>some d
 |.sl _ es,(i,j)::p=>
  match es[i]? with
  |some e=>match e[j]? with
   |some d=>d.kt p
   |none=>none
  |none=>none
 |_,_::_=>none
def D.put:D→bQ→D→D
 |_,[],x=>x
 |.sl sz es,(i,j)::p,x=>
  match es[i]? with
  |some e=>match e[j]? with
   |some d=>.sl sz (es.set i (e.set j (d.put p x)))
   |none=>.sl sz es
  |none=>.sl sz es
 |d,_::_,_=>d
def Rt.cells:Rt→List C
 |.aX cs|.bx cs=>cs
def Rt.lL:Rt→Nat→C→Rt
 |.aX cs,j,c=>.aX (cs.set j c)
 |.bx cs,j,c=>.bx (cs.set j c)
def Rt.AB:Rt→Bool
 |.aX _=>true
 |.bx _=>false
abbrev Mem:=Option Rt×List (Nat×bQ)
abbrev Ms:=Nat→Mem
def bO {α:Type} (f:Nat→α) (n:Nat) (x:α):Nat→α:=fun k=>if k=n then x else f k
def pW:bQ→bQ→Bool
 |[],_=>true
 |(_,c)::k,(_,c')::p=>c==c'&&pW k p
 |_::_,[]=>false
def Ms.eC (m:Ms) (r j:Nat) (p:bQ):Bool:=(m r).2.any fun x=>x.1==j&&pW x.2 p
def Ms.cell (m:Ms) (r j:Nat):Option C:=
 match (m r).1 with
 |some rt=>rt.cells[j]?
 |none=>none
def Ms.at (m:Ms) (r j:Nat) (p:bQ):Option D:=
 if m.eC r j p then none else
 match m.cell r j with
 |some (.own d)=>d.kt p
 |_=>none
def Ms.putAt (m:Ms) (r j:Nat) (p:bQ) (x:D) (kl:List (Nat×bQ)):Option Ms:=
 match (m r).1 with
 |some rt=>match rt.cells[j]? with
  |some (.own d)=>some (bO m r (some (rt.lL j (.own (d.put p x))),kl++(m r).2))
  |_=>none
 |none=>none
def Ms.take (m:Ms) (r j:Nat) (p:bQ):Option (D×Ms):=
 match m.at r j p with
 |some (.sl sz es)=>match m.putAt r j p .dead [] with
  |some m'=>some (.sl sz es,m')
  |none=>none
 |_=>none
def wi (k:Bool) (d:D):AV:=
 match d with
 |.sl sz es=>.v k (.sl sz es)
 |.fn g ds=>.v k (.fn g ds)
 |.rp ds=>.v k (.rp ds)
 |d=>.v false d
def vo (r j:Nat) (p:bQ) (d:D):AV:=
 match d with
 |.sl _ _=>.pl r j p
 |.dead=>.un
 |d=>.v false d
def mR (r j:Nat) (c:C):AV:=
 match c with
 |.ro k d=>wi k d
 |.own d=>vo r j [] d
 |.rf r' j'=>.pl r' j' []
def AV.cells:AV→List AV
 |.agg cs=>cs
 |a=>[a]
def ym (d:Option D) (sz lo hi:Nat):Option (List (List D)):=
 match d with
 |some (.sl gH es)=>if gH=sz∧lo≤hi∧hi≤es.length then some ((es.take hi).drop lo) else none
 |_=>none
def cut (es:List (List D)) (lo hi:Nat):List (List D):=(es.take hi).drop lo
def iA (m:Ms):AV→Option (C×Ms)
 |.v _ .dead=>none
 |.v k d=>some (.ro k d,m)
 |.nl sz=>some (.own (.sl sz []),m)
 |.pl r j p=>match m.take r j p with
  |some (d,m')=>some (.own d,m')
  |none=>none
 |.rg r j p sz 0 hi=>match ym (m.at r j p) sz 0 hi,m.take r j p with
  |some es,some (_,m')=>some (.own (.sl sz es),m')
  |_,_=>none
 |_=>none
def jC (m:Ms):List AV→Option (List C×Ms)
 |[]=>some ([],m)
 |a::as=>match iA m a with
  |some (c,m')=>match jC m' as with
   |some (cs,xv)=>some (c::cs,xv)
   |none=>none
  |none=>none
def C.xQ:C→Option D
 |.ro _ d=>if d.dt then some d else none
 |.own d=>some d
 |.rf ..=>none
def wK:List C→Option (List D)
 |[]=>some []
 |c::cs=>match c.xQ with
  |some d=>match wK cs with
   |some ds=>some (d::ds)
   |none=>none
  |none=>none
def sk (m:Ms):AV→Option C
 |.v _ .dead=>none
 |.v k d=>some (.ro k d)
 |.nl sz=>some (.own (.sl sz []))
 |.pl r j []=>match (m r).1 with
  |some (.aX _)=>if m.eC r j [] then none else some (.rf r j)
  |_=>none
 |_=>none
def mw (m:Ms):List AV→Option (List C)
 |[]=>some []
 |a::as=>match sk m a with
  |some c=>match mw m as with
   |some cs=>some (c::cs)
   |none=>none
  |none=>none
def Ms.jE (m:Ms):AV→Option (Nat×List (List D))
 |.v _ (.sl sz es)=>some (sz,es)
 |.nl sz=>some (sz,[])
 |.pl r j p=>match m.at r j p with
  |some (.sl sz es)=>some (sz,es)
  |_=>none
 |.rg r j p sz lo hi=>match ym (m.at r j p) sz lo hi with
  |some es=>some (sz,es)
  |none=>none
 |_=>none
def AV.asInt:AV→Option Int
 |.v _ (.int _ n)=>some n
 |_=>none
def AV.asBool:AV→Option Bool
 |.v _ (.bool b)=>some b
 |_=>none
def mV {α:Type} (l:List α) (c:Nat) (xs:List α):List α:=l.take c++xs++l.drop (c+xs.length)
def C.dt:C→Bool
 |.ro _ _=>true
 |.own _=>false
 |.rf ..=>false
def oW (m:Ms) (n:Nat):AV→Option (List AV)
 |.bx r j=>match (m r).1 with
  |some (.bx cs)=>if j+n≤cs.length then some (((cs.drop j).take n).zipIdx.map fun x=>mR r (j+x.2) x.1) else none
  |_=>none
 |.ad r j p sz i c=>match m.at r j p with
  |some (.sl gH es)=>match es[i]? with
   |some e=>if c+n≤e.length∧gH=sz then some (((e.drop c).take n).zipIdx.map fun x=>vo r j (p++[(i,c+x.2)]) x.1) else none
   |none=>none
  |_=>none
 |.ra k _ es i c=>match es[i]? with
  |some e=>if c+n≤e.length then some (((e.drop c).take n).map fun x=>wi k x) else none
  |none=>none
 |.v k (.rp ds)=>if n≤ds.length then some ((ds.take n).map fun x=>wi k x) else none
 |_=>none
def sa (j:Nat):List C→List C→List (Nat×bQ)
 |c::cs,c'::rN=>if c.dt&&c'.dt then sa (j+1) cs rN else (j,[])::sa (j+1) cs rN
 |_,_=>[]
def rm (j:Nat) (p:bQ) (i c:Nat):List D→List D→List (Nat×bQ)
 |d::ds,d'::yo=>if d.dt&&d'.dt then rm j p i (c+1) ds yo else (j,p++[(i,c)])::rm j p i (c+1) ds yo
 |_,_=>[]
def uh (m:Ms) (cs:List C):AV→Option Ms
 |.bx r j=>match m r with
  |(some (.bx cs0),kl)=>
   if j+cs.length≤cs0.length then
    some (bO m r (some (.bx (mV cs0 j cs)),sa j (cs0.drop j) cs++kl))
   else none
  |_=>none
 |.ad r j p sz i c=>match wK cs with
  |some ds=>match m.at r j p with
   |some (.sl gH es)=>match es[i]? with
    |some e=>
     if c+ds.length≤e.length∧gH=sz then
      m.putAt r j p (.sl sz (es.set i (mV e c ds))) (rm j p i c (e.drop c) ds)
     else none
    |none=>none
   |_=>none
  |none=>none
 |_=>none
def vk (op:BinOp):D→D→Option D
 |.int k a,.int k' b=>
  match op with
  |.shl=>if b<0 then none else some (.int k (k.wrap (a*2^(min b.toNat k.bits))))
  |.shr=>if b<0 then none else some (.int k (a.fdiv (2^(min b.toNat k.bits))))
  |op=>
   if k=k' then
    match op with
    |.add=>some (.int k (k.wrap (a+b)))
    |.sub=>some (.int k (k.wrap (a-b)))
    |.mul=>some (.int k (k.wrap (a*b)))
    |.quo=>if b=0 then none else some (.int k (k.wrap (a.tdiv b)))
    |.rem=>if b=0 then none else some (.int k (a.tmod b))
    |.and=>some (.int k (k.wrap (zr k.bits a &&& zr k.bits b).toNat))
    |.or=>some (.int k (k.wrap (zr k.bits a ||| zr k.bits b).toNat))
    |.xor=>some (.int k (k.wrap (zr k.bits a ^^^ zr k.bits b).toNat))
    |.eql=>some (.bool (a==b))
    |.neq=>some (.bool (a !=b))
    |.lss=>some (.bool (a<b))
    |.leq=>some (.bool (a≤b))
    |.gtr=>some (.bool (a>b))
    |.geq=>some (.bool (a≥b))
    |_=>none
   else none
 |.str a,.str b=>
  match op with
  |.add=>if ((a.size+b.size:Nat):Int)>IntKind.i64.max then none else some (.str (a++b))
  |.eql=>some (.bool (a.toList==b.toList))
  |.neq=>some (.bool !(a.toList==b.toList))
  |.lss=>some (.bool (Op.bytesLess a.toList b.toList))
  |.leq=>some (.bool (Op.bytesLess a.toList b.toList||a.toList==b.toList))
  |.gtr=>some (.bool !(Op.bytesLess a.toList b.toList||a.toList==b.toList))
  |.geq=>some (.bool !(Op.bytesLess a.toList b.toList))
  |_=>none
 |_,_=>none
def vC:List Nat→List AV→List AV→Option Bool
 |[],[],[]=>some true
 |0::ks,.v _ (.int k a)::xs,.v _ (.int k' b)::ys=>if k=k' then (match vC ks xs ys with|some r=>some (a==b&&r)|none=>none) else none
 |1::ks,.v _ (.bool a)::xs,.v _ (.bool b)::ys=>(match vC ks xs ys with|some r=>some (a==b&&r)|none=>none)
 |2::ks,.v _ (.str a)::xs,.v _ (.str b)::ys=>(match vC ks xs ys with|some r=>some (a.toList==b.toList&&r)|none=>none)
 |_,_,_=>none
def ER (op:UnOp):D→Option D
 |.bool b=>match op with
  |.not=>some (.bool !b)
  |_=>none
 |.int k n=>match op with
  |.neg=>some (.int k (k.wrap (0-n)))
  |_=>none
 |_=>none
inductive PX where
 |t (n:Nat)
 |c (a:AV)
 deriving Inhabited
inductive bP where
 |mv (x:PX)
 |pick (c a b:PX)
 |bin (op:BinOp) (x y:PX)
 |eqs (neg:Bool) (ks:List Nat) (x y:PX)
 |rP (neg:Bool) (x y:PX)
 |un (op:UnOp) (x:PX)
 |len (x:PX)
 |lens (x:PX)
 |box (n:Nat) (x:PX)
 |alloc (cs:List AV)
 |build (z:List AV) (ps:List (Nat×Nat×PX))
 |bZ (sz:Nat) (z:List D) (n:Nat) (ps:List (Nat×PX))
 |lH (sz bytes:Nat) (z:List D) (x:PX)
 |ld (agg:Bool) (n:Nat) (x:PX)
 |st (n:Nat) (x y:PX)
 |Cw (n:Nat) (x y:PX)
 |FB (x:PX) (off:Nat)
 |DQ (x:PX)
 |ah (x:PX) (off:Nat)
 |cK (sz:Nat) (x i:PX)
 |iI (sz:Nat) (x:PX) (lo hi:Option PX)
 |Iz (x:PX) (lo hi:Option PX)
 |ext (x:PX) (k:Nat)
 |call (f:Nat) (io:List Nat) (args:List PX)
 |app (sz bytes:Nat) (x y:PX)
 |gn (k:IntKind) (x:PX)
 |qg (x:PX)
 |CR (x:PX)
 |idx (x i:PX)
 |mn (x y:PX)
 |mx (x y:PX)
 |Gd (g:Nat) (x:PX)
 |vm (x:PX) (args:List PX)
 |p_ (sz bytes:Nat) (x y:PX)
 |apps (x y:PX)
 |lj (f i:Nat) (args:List PX)
 |sV (sz:Nat) (z:List D) (x:PX)
 deriving Inhabited
structure PO where
 dst:Option Nat
 op:bP
 g:Option (Nat×Bool):=none
 deriving Inhabited
abbrev AL:=List (Nat×AV×Option Rt)
inductive PC where
 |ext (calls:AL→Option (List (Nat×List V×V))) (f:AL→Option AL)
 |skip
 |ff (live:List Nat) (aQ:List (Nat×Nat)) (ops:List PO) (draw:Option (List (Nat×Nat)))
 |seq (a b:PC)
 |cond (x:PX) (a b:PC)
 |uE (id:Nat) (c:PC)
 |loop (c:PC)
 |exit (id:Nat)
 |ret
 deriving Inhabited
inductive PR where
 |s (n:Nat)
 |b (n size:Nat) (agg:Bool)
 deriving Inhabited
structure PF where
 res:List PR
 io:List Nat
 body:PC
 deriving Inhabited
structure St where
 av:Nat→AV
 ms:Ms
def St.ev (S:St):PX→AV
 |.t n=>S.av n
 |.c a=>a
def AL.get:AL→Nat→AV×Option Rt
 |[],_=>(.un,none)
 |(k,x)::l,n=>if n=k then x else AL.get l n
def AL.st (L:AL):St:={ av:=fun n=>(L.get n).1,ms:=fun n=>((L.get n).2,[]) }
def xM:List C→Option (List D)
 |[]=>some []
 |.ro k d::cs=>if k||d.dt then match xM cs with
  |some ds=>some (d::ds)
  |none=>none
  else none
 |_::_=>none
def we:List C→Option (List D)
 |[]=>some []
 |.ro k d::cs=>if k||d.dt then match we cs with
  |some ds=>some (d::ds)
  |none=>none
  else none
 |.own d::cs=>match we cs with
  |some ds=>some (d::ds)
  |none=>none
 |_::_=>none
def qb (m:Ms):AV→Option C
 |.v _ .dead=>none
 |.v k d=>some (.ro k d)
 |.nl sz=>some (.ro false (.sl sz []))
 |.pl r j p=>match m.at r j p with
  |some (.sl sz es)=>some (.ro true (.sl sz es))
  |_=>none
 |.rg r j p sz lo hi=>match ym (m.at r j p) sz lo hi with
  |some es=>some (.ro true (.sl sz es))
  |none=>none
 |.fv f r=>match (m r).1 with
  |some (.bx cs)=>match xM cs with
   |some (d::ds)=>some (.ro true (.fn f (d::ds)))
   |_=>none
  |_=>none
 |.bx r 0=>match (m r).1 with
  |some (.bx cs)=>match we cs with
   |some (d::ds)=>some (.ro true (.rp (d::ds)))
   |_=>none
  |_=>none
 |_=>none
def qc (m:Ms):List AV→Option (List C)
 |[]=>some []
 |a::as=>match qb m a with
  |some c=>match qc m as with
   |some cs=>some (c::cs)
   |none=>none
  |none=>none
def DI (m:Ms):AV→Option C
 |.v _ .dead=>none
 |.v k d=>some (.ro k d)
 |.nl sz=>some (.ro false (.sl sz []))
 |.pl r j p=>match m.at r j p with
  |some (.sl sz es)=>some (.own (.sl sz es))
  |_=>none
 |_=>none
def DJ (m:Ms):List AV→Option (List C)
 |[]=>some []
 |a::as=>match DI m a with
  |some c=>match DJ m as with
   |some cs=>some (c::cs)
   |none=>none
  |none=>none
def C.dP:C→Bool
 |.rf ..=>false
 |_=>true
def oG (m:Ms) (io:Bool):AV→Option V
 |.agg cs=>match (if io then DJ m cs else qc m cs) with
  |some l=>some (.st l)
  |none=>none
 |a=>match (if io then DI m a else qb m a) with
  |some c=>some (.one c)
  |none=>none
def jU (m:Ms) (io:List Nat):Nat→List AV→Option (List V)
 |_,[]=>some []
 |i,a::as=>match oG m (io.contains i) a with
  |some x=>match jU m io (i+1) as with
   |some xs=>some (x::xs)
   |none=>none
  |none=>none
def AV.DM:AV→Bool
 |.pl ..|.rg ..|.fv ..|.bx ..=>true
 |_=>false
def AV.DK:AV→Bool
 |.fv ..|.bx ..=>true
 |_=>false
def AV.vE:AV→Bool
 |.agg cs=>cs.any AV.DK
 |a=>a.DK
def AV.lent:AV→Bool
 |.agg cs=>cs.any AV.DM
 |a=>a.DM
def og (io:List Nat):Nat→List AV→Bool
 |_,[]=>false
 |i,a::as=>(!io.contains i&&a.lent)||og io (i+1) as
def C.fl:C→Bool
 |.ro k d=>!k||d.dt
 |.own _=>true
 |.rf ..=>false
def V.wj:V→Bool
 |.one c=>c.fl
 |.st cs|.ptr cs=>cs.all C.fl
 |_=>false
def V.fl:V→Bool
 |.cf vs=>vs.all V.wj
 |x=>x.wj
def V.xH:V→Bool
 |.one c=>c.dP
 |.st cs=>cs.all C.dP
 |_=>false
def V.plain:V→Bool
 |.cf vs=>vs.all V.xH
 |.ptr cs=>cs.all C.dP
 |x=>x.xH
def V.flat:V→List C
 |.one c=>[c]
 |.st cs=>cs
 |_=>[]
def rY (d n:Nat):List C→List AV
 |[]=>[]
 |c::cs=>mR d n c::rY d (n+1) cs
def v_ (d n:Nat):V→AV
 |.one c=>mR d n c
 |.st cs=>.agg (rY d n cs)
 |_=>.un
def rZ (d:Nat):Nat→List V→List AV
 |_,[]=>[]
 |n,x::xs=>v_ d n x::rZ d (n+x.flat.length) xs
def C.gx:C→Bool
 |.own d=>!d.dt
 |_=>false
def Bi (cs:List C):Option Rt:=if cs.any C.gx then some (.aX cs) else none
def imp (d:Nat):V→AV×Option Rt
 |.ptr cs=>(.bx d 0,some (.bx cs))
 |.cf xs=>(.cf (rZ d 0 xs),Bi (xs.flatMap V.flat))
 |x=>(v_ d 0 x,Bi x.flat)
def wc (j:Nat) (p:bQ):Nat→List (Nat×bQ)
 |0=>[]
 |n+1=>(j,p++[(0,n)])::wc j p n
def ml (m:Ms):AV→Option (V×Ms)
 |.agg cs=>match jC m cs with
  |some (l,m')=>some (.st l,m')
  |none=>none
 |a=>match iA m a with
  |some (c,m')=>some (.one c,m')
  |none=>none
def uk (m:Ms) (c:C):AV→Option Ms
 |.pl r j p=>match c with
  |.own (.sl sz es)=>match m.at r j p with
   |some .dead=>m.putAt r j p (.sl sz es) (wc j p sz)
   |_=>none
  |_=>none
 |.nl _=>match c with
  |.own (.sl _ [])=>some m
  |_=>none
 |_=>none
def pd (cs:List AV):Nat→Ms→List (Nat×Nat×C)→Option Ms
 |_,m,[]=>some m
 |lo,m,(i,j,c)::l=>if i=0∧lo≤j then match cs[j]? with
  |some a=>match uk m c a with
   |some m'=>pd cs (j+1) m' l
   |none=>none
  |none=>none
  else none
def lq (es:List (List D)):Bool:=es.all fun e=>e.all D.dt
def AV.isVal:AV→Bool
 |.un|.cf _|.v _ .dead=>false
 |_=>true
def BA (z:List AV):List (Nat×Nat×AV)→Option (List AV)
 |[]=>some z
 |(off,n,a)::l=>if a.cells.length=n∧off+n≤z.length∧a.isVal=true then BA (mV z off a.cells) l else none
def chunks (sz:Nat):Nat→List D→List (List D)
 |0,_=>[]
 |n+1,l=>l.take sz::chunks sz n (l.drop sz)
def th (m:Ms) (sz:Nat) (l:List D):List (Nat×AV)→Option (List D×Ms)
 |[]=>some (l,m)
 |(off,a)::r=>match jC m a.cells with
  |some (cs,m')=>match wK cs with
   |some ds=>if ds.length=sz∧off+sz≤l.length then th m' sz (mV l off ds) r else none
   |none=>none
  |none=>none
def C.rk:C→Bool
 |.ro ..=>true
 |_=>false
def AV.AZ (m:Ms):AV→Option (Nat×List C)
 |.bx r 0=>match (m r).1 with
  |some (.bx cs)=>if cs.all C.dP then some (r,cs) else none
  |_=>none
 |_=>none
def V.ajM:V→Bool
 |.ptr _=>false
 |_=>true
def adn:Nat→List (Nat×Nat×C)→Option (List C)
 |_,[]=>some []
 |n,(i,j,c)::us=>if i=0∧j=n∧c.dP=true then match adn (n+1) us with
  |some cs=>some (c::cs)
  |none=>none
  else none
def My (r:Nat):Nat→List (Nat×bQ)
 |0=>[]
 |n+1=>(n,[])::My r n
mutual
def AV.refs:AV→List Nat
 |.pl r _ _=>[r]
 |.rg r _ _ _ _ _=>[r]
 |.bx r _=>[r]
 |.ad r _ _ _ _ _=>[r]
 |.fv _ r=>[r]
 |.agg cs=>AV.ea cs
 |.cf cs=>AV.ea cs
 |_=>[]
def AV.ea:List AV→List Nat
 |[]=>[]
 |a::as=>a.refs++AV.ea as
end
def ad' (m:Ms) (r0:Nat) (rest:List AV) (cs Fp:List C):Option Ms:=
 if cs.all C.rk&&Fp.all C.rk then some (bO m r0 (some (.bx Fp),(m r0).2))
 else if rest.all (fun a=>!a.refs.contains r0) then some (bO m r0 (some (.bx Fp),My r0 cs.length++(m r0).2)) else none
abbrev Env:=Nat→List V→Option (V×List (Nat×Nat×C))
def xP (s:ByteArray):List (List D):=s.toList.map fun b=>[.int .u8 b.toNat]
def sT:List (List D)→Option (List UInt8)
 |[]=>some []
 |[.int .u8 n]::l=>match sT l with
  |some bs=>some (zY n.toNat::bs)
  |none=>none
 |_=>none
def CM (n:Int) (B0:Nat):Option Nat:=if 0≤n∧n≤B0 then some n.toNat else none
def tO (len:Nat) (ev:PX→AV) (lo hi:Option PX):Option (Nat×Nat):=
 match (match hi with|none=>some len|some x=>match (ev x).asInt with|some n=>CM n len|none=>none) with
 |some h=>match (match lo with|none=>some 0|some x=>match (ev x).asInt with|some n=>CM n h|none=>none) with
  |some l=>some (l,h)
  |none=>none
 |none=>none
def Wt:AV→Option C
 |.v _ .dead=>none
 |.v k d=>some (.ro k d)
 |.nl _=>some (.ro false .dead)
 |.pl ..=>some (.ro false .dead)
 |.rg ..=>some (.ro false .dead)
 |_=>none
def Wu:List AV→Option (List C)
 |[]=>some []
 |a::as=>match Wt a with
  |some c=>match Wu as with
   |some cs=>some (c::cs)
   |none=>none
  |none=>none
def alO (m:Ms) (cs:List C):AV→Option Ms
 |.bx r j=>uh m cs (.bx r j)
 |_=>none
def aeh (k:Bool):List D→List V
 |[]=>[]
 |d::ds=>[.one (.ro k (.rp (d::ds)))]
def bh (Γ:Env) (ev:PX→AV) (d:Nat) (m:Ms):bP→Option (AV×Option Rt×Ms)
 |.mv x=>some (ev x,none,m)
 |.pick c a b=>match (ev c).asBool with
  |some t=>some (if t then ev a else ev b,none,m)
  |none=>none
 |.bin op x y=>match ev x,ev y with
  |.v _ a,.v _ b=>match vk op a b with
   |some r=>some (.v false r,none,m)
   |none=>none
  |_,_=>none
 |.eqs neg ks x y=>match ev x,ev y with
  |.agg xs,.agg ys=>match vC ks xs ys with
   |some r=>some (.v false (.bool (if neg then !r else r)),none,m)
   |none=>none
  |_,_=>none
 |.rP neg x y=>match (ev x).asBool,(ev y).asBool with
  |some a,some b=>some (.v false (.bool (if neg then !(a==b) else a==b)),none,m)
  |_,_=>none
 |.un op x=>match ev x with
  |.v _ a=>match ER op a with
   |some r=>some (.v false r,none,m)
   |none=>none
  |_=>none
 |.len x=>match m.jE (ev x) with
  |some (_,es)=>some (.v false (.int .i64 es.length),none,m)
  |none=>none
 |.lens x=>match ev x with
  |.v _ (.str s)=>some (.v false (.int .i64 s.size),none,m)
  |_=>none
 |.box n x=>match mw m (ev x).cells with
  |some cs=>if cs.length=n then some (.bx d 0,some (.bx cs),m) else none
  |none=>none
 |.alloc zs=>match mw m zs with
  |some cs=>some (.bx d 0,some (.bx cs),m)
  |none=>none
 |.build z ps=>match BA z (ps.map fun x=>(x.1,x.2.1,ev x.2.2)) with
  |some l=>some (.agg l,none,m)
  |none=>none
 |.bZ sz z n ps=>match th m sz z (ps.map fun x=>(x.1,ev x.2)) with
  |some (l,m')=>some (.pl d 0 [],some (.aX [.own (.sl sz (chunks sz n l))]),m')
  |none=>none
 |.lH sz bytes z x=>match (ev x).asInt with
  |some n=>if 0≤n∧n.toNat*bytes≤2^47 then
   some (.pl d 0 [],some (.aX [.own (.sl sz (zM n.toNat z))]),m) else none
  |none=>none
 |.ld agg n x=>match oW m n (ev x) with
  |some l=>if agg then some (.agg l,none,m) else match l with
   |[a]=>some (a,none,m)
   |_=>none
  |none=>none
 |.st n x y=>match jC m (ev y).cells with
  |some (cs,m')=>if cs.length=n then match uh m' cs (ev x) with
   |some xv=>some (.un,none,xv)
   |none=>none
   else none
  |none=>none
 |.Cw _ _ _=>none
 |.FB _ _=>none
 |.DQ _=>none
 |.ah x off=>match ev x with
  |.bx r j=>some (.bx r (j+off),none,m)
  |.ad r j p sz i c=>some (.ad r j p sz i (c+off),none,m)
  |.ra k sz es i c=>some (.ra k sz es i (c+off),none,m)
  |_=>none
 |.cK sz x i=>match (ev i).asInt with
  |some n=>match ev x with
   |.v k (.sl gH es)=>if 0≤n∧n<es.length∧gH=sz then some (.ra k sz es n.toNat 0,none,m) else none
   |.pl r j p=>match m.at r j p with
    |some (.sl gH es)=>if 0≤n∧n<es.length∧gH=sz then some (.ad r j p sz n.toNat 0,none,m) else none
    |_=>none
   |.rg r j p gH lo hi=>match ym (m.at r j p) gH lo hi with
    |some es=>if 0≤n∧n<es.length∧gH=sz then some (.ad r j p sz (lo+n.toNat) 0,none,m) else none
    |none=>none
   |_=>none
  |none=>none
 |.Iz _ _ _=>none
 |.iI u_ x lo hi=>match ev x with
  |.v k (.sl sz es)=>match tO es.length ev lo hi with
   |some (l,h)=>if sz=u_ then some (.v k (.sl sz (cut es l h)),none,m) else none
   |none=>none
  |.nl sz=>match tO 0 ev lo hi with
   |some _=>some (.nl sz,none,m)
   |none=>none
  |.pl r j p=>match m.at r j p with
   |some (.sl sz es)=>match tO es.length ev lo hi with
    |some (l,h)=>if sz=u_ then some (.rg r j p sz l h,none,m) else none
    |none=>none
   |_=>none
  |_=>none
 |.ext x k=>match ev x with
  |.cf cs=>match cs[k]? with
   |some a=>some (a,none,m)
   |none=>none
  |_=>none
 |.call f io args=>match io with
  |[]=>match jU m [] 0 (args.map ev) with
   |some xs=>match Γ f xs with
    |some (r,us)=>if r.plain&&(r.fl||!(og [] 0 (args.map ev))) then
     match us with
     |[]=>some ((imp d r).1,(imp d r).2,m)
     |_=>none
     else none
    |none=>none
   |none=>none
  |_::_=>match args.map ev with
   |[]=>none
   |a0::rest=>match a0.AZ m with
    |some _=>none
    |none=>match ml m a0 with
    |some (x0,m1)=>match jU m1 [] 1 rest with
     |some xs=>match Γ f (x0::xs) with
      |some (r,us)=>if r.plain&&((r.fl&&us.all fun u=>u.2.2.fl)||!(og [] 1 rest)) then match pd a0.cells 0 m1 us with
       |some m2=>some ((imp d r).1,(imp d r).2,m2)
       |none=>none
       else none
      |none=>none
     |none=>none
    |none=>none
 |.app sz bytes x y=>match (match m.jE (ev y) with
  |some (s,ys)=>if lq ys then some (s,ys,m) else match iA m (ev y) with
   |some (.own (.sl s1 ys1),m1)=>if ys1.all (fun e=>e.all D.live) then some (s1,ys1,m1) else none
   |_=>none
  |none=>none) with
  |some (s1,ys,m1)=>match iA m1 (ev x) with
   |some (.own (.sl s2 es),m2)=>
    if s1=sz∧s2=sz∧(es.length+ys.length)*bytes≤2^46 then
     some (.pl d 0 [],some (.aX [.own (.sl sz (es++ys))]),m2) else none
   |_=>none
  |none=>none
 |.apps x y=>match ev y with
  |.v _ (.str s)=>match iA m (ev x) with
   |some (.own (.sl 1 es),m2)=>if es.length+s.size≤2^46 then
    some (.pl d 0 [],some (.aX [.own (.sl 1 (es++xP s))]),m2) else none
   |_=>none
  |_=>none
 |.p_ sz bytes x y=>match m.jE (ev y) with
  |some (s1,ys)=>if lq ys then match iA m (ev x) with
   |some (.own (.sl s2 es),m2)=>
    if s1=sz∧s2=sz∧(es.length+ys.length)*bytes≤2^46 then
     some (.pl d 0 [],some (.aX [.own (.sl sz (es++ys))]),m2) else none
   |_=>none
   else none
  |none=>none
 |.gn k x=>match ev x with
  |.v _ (.int _ n)=>some (.v false (.int k (k.wrap n)),none,m)
  |_=>none
 |.qg x=>match m.jE (ev x) with
  |some (_,es)=>match sT es with
   |some bs=>some (.v false (.str ⟨bs.toArray⟩),none,m)
   |none=>none
  |none=>none
 |.CR _=>none
 |.idx x i=>match ev x,(ev i).asInt with
  |.v _ (.str s),some n=>if 0≤n then match s.toList[n.toNat]? with
   |some b=>some (.v false (.int .u8 b.toNat),none,m)
   |none=>none
   else none
  |_,_=>none
 |.mn x y=>match ev x,ev y with
  |.v _ (.int k a),.v _ (.int _ b)=>some (.v false (.int k (if b<a then b else a)),none,m)
  |_,_=>none
 |.mx x y=>match ev x,ev y with
  |.v _ (.int k a),.v _ (.int _ b)=>some (.v false (.int k (if a<b then b else a)),none,m)
  |_,_=>none
 |.Gd _ _=>none
 |.lj f i args=>match (args.map ev)[i]? with
  |some a0=>match ml m a0 with
   |some (x0,m1)=>match jU m1 [] 0 ((args.map ev).set i (.v false (.bool true))) with
    |some xs=>match Γ f (xs.set i x0) with
     |some (r,_)=>if r.plain&&(r.fl||!(og [] 0 ((args.map ev).set i (.v false (.bool true))))) then
      some ((imp d r).1,(imp d r).2,m1)
      else none
     |none=>none
    |none=>none
   |none=>none
  |none=>none
 |.sV sz z x=>match ev x with
  |.rg r j p u_ lo hi=>match m.at r j p with
   |some (.sl EM es)=>if EM=sz∧u_=sz∧lo<hi∧hi≤es.length∧z.length=sz∧z.all D.dt=true∧lq ((es.take hi).drop lo)=true then
    (match m.putAt r j p (.sl sz (es.take lo++zM (hi-lo) z++es.drop hi)) [] with
    |some m'=>some (.cf [],none,m')
    |none=>none)
    else none
   |_=>none
  |_=>none
 |.vm _ _=>none
def gd (S:St):Option (Nat×Bool)→Option Bool
 |none=>some true
 |some (t,want)=>match S.av t with
  |.v _ (.bool b)=>some (b==want)
  |.cf []=>some false
  |_=>none
def gz (Γ:Env) (o:PO) (S:St):Option St:=
 match gd S o.g with
 |some true=>
  match o.dst with
  |some d=>match bh Γ S.ev d S.ms o.op with
   |some (a,none,m)=>some { av:=bO S.av d a,ms:=m }
   |some (a,some r,m)=>match m d with
    |(none,_)=>some { av:=bO S.av d a,ms:=bO m d (some r,[]) }
    |_=>none
   |none=>none
  |none=>match bh Γ S.ev 0 S.ms o.op with
   |some (_,none,m)=>some { av:=S.av,ms:=m }
   |_=>none
 |some false=>match o.dst with
  |some d=>some { S with av:=bO S.av d (.cf []) }
  |none=>some S
 |none=>none
def jv (Γ:Env):List PO→St→Option St
 |[],S=>some S
 |o::os,S=>match gz Γ o S with
  |some S'=>jv Γ os S'
  |none=>none
def iH (aQ:List (Nat×Nat)) (r:Nat):Nat:=match aQ with
 |[]=>r
 |(a,b)::l=>if r=a then b else iH l r
def Jh (aQ:List (Nat×Nat)) (n:Nat):Option Nat:=match aQ with
 |[]=>none
 |(a,b)::l=>if n=b then some a else Jh l n
def wI (aQ:List (Nat×Nat)) (n:Nat):Nat:=match Jh aQ n with
 |some a=>a
 |none=>n
def ju (live:List Nat) (aQ:List (Nat×Nat)) (r:Nat):Bool:=
 live.contains (iH aQ r)&&wI aQ (iH aQ r)==r
mutual
def jG (m:Ms) (live:List Nat) (aQ:List (Nat×Nat)):AV→AV
 |.pl r j p=>if (m.eC r j p)||!(ju live aQ r) then .un else .pl (iH aQ r) j p
 |.rg r j p sz lo hi=>if (m.eC r j p)||!(ju live aQ r) then .un else .rg (iH aQ r) j p sz lo hi
 |.bx r j=>if !(ju live aQ r) then .un else .bx (iH aQ r) j
 |.ad r j p sz i c=>if (m.eC r j p)||!(ju live aQ r) then .un else .ad (iH aQ r) j p sz i c
 |.fv f r=>if !(ju live aQ r) then .un else .fv f (iH aQ r)
 |.agg cs=>.agg (qS m live aQ cs)
 |.cf cs=>.cf (qS m live aQ cs)
 |a=>a
def qS (m:Ms) (live:List Nat) (aQ:List (Nat×Nat)):List AV→List AV
 |[]=>[]
 |a::as=>jG m live aQ a::qS m live aQ as
end
def fixC (live:List Nat) (aQ:List (Nat×Nat)):C→C
 |.rf r j=>if ju live aQ r then .rf (iH aQ r) j else .ro false .dead
 |c=>c
def xb (live:List Nat) (aQ:List (Nat×Nat)):Rt→Rt
 |.aX cs=>.aX (cs.map (fixC live aQ))
 |.bx cs=>.bx (cs.map (fixC live aQ))
def wb (S:St) (live:List Nat) (aQ:List (Nat×Nat)) (n:Nat):Option Rt:=
 if iH aQ (wI aQ n)=n then match (S.ms (wI aQ n)).1 with
  |some rt=>some (xb live aQ rt)
  |none=>none
 else none
def settle (live:List Nat) (aQ:List (Nat×Nat)) (S:St):AL:=
 live.map fun n=>(n,jG S.ms live aQ (S.av n),wb S live aQ n)
def bP.eE:bP→List PX
 |.mv x|.un _ x|.len x|.lens x|.box _ x|.lH _ _ _ x|.ld _ _ x|.DQ x|.FB x _|.ah x _|.ext x _|.gn _ x|.qg x|.CR x|.Gd _ x|.sV _ _ x=>[x]
 |.pick c a b=>[c,a,b]
 |.bin _ x y|.eqs _ _ x y|.rP _ x y|.st _ x y|.Cw _ x y|.cK _ x y|.app _ _ x y|.p_ _ _ x y|.apps x y|.idx x y|.mn x y|.mx x y=>[x,y]
 |.alloc zs=>zs.map .c
 |.build _ ps=>ps.map (·.2.2)
 |.bZ _ _ _ ps=>ps.map (·.2)
 |.iI _ x lo hi|.Iz x lo hi=>x::(lo.toList++hi.toList)
 |.call _ _ args=>args
 |.lj _ _ args=>args
 |.vm x args=>x::args
def bP.reads:bP→List PX
 |.len x|.box _ x|.ld _ _ x|.qg x|.cK _ x _|.iI _ x _ _=>[x]
 |.Cw _ x _=>[x]
 |.sV _ _ x=>[x]
 |.apps x _=>[x]
 |.st _ x y|.app _ _ x y|.p_ _ _ x y=>[x,y]
 |.alloc zs=>zs.map .c
 |.bZ _ _ _ ps=>ps.map (·.2)
 |.call _ _ args=>args
 |.lj _ _ args=>args
 |.vm _ args=>args
 |_=>[]
def bP.CQ:bP→Bool
 |.box ..|.alloc _|.bZ ..|.lH ..|.call ..|.lj ..|.vm ..|.app ..|.p_ ..|.apps ..=>true
 |_=>false
def bP.lM:bP→List PX
 |.Cw _ x _=>[x]
 |.sV _ _ x=>[x]
 |.lj _ _ args=>args
 |.p_ _ _ x _=>[x]
 |.apps x _=>[x]
 |.st _ x y|.app _ _ x y=>[x,y]
 |.bZ _ _ _ ps=>ps.map (·.2)
 |.call _ io args=>if io=[] then [] else args
 |_=>[]
def wanted (S:St):Option (Nat×Bool)→Bool
 |none=>true
 |some (t,want)=>match S.av t with
  |.v _ (.bool b)=>b==want
  |_=>false
def kE (S:St) (o:PO):List Nat:=if wanted S o.g then o.op.reads.flatMap fun x=>(S.ev x).refs else []
def gu (S:St) (o:PO):List Nat:=if wanted S o.g then (if o.op.CQ then o.dst.toList else [])++o.op.lM.flatMap fun x=>(S.ev x).refs else []
def mH (Γ:Env):List PO→St→List (List Nat×List Nat)
 |[],_=>[]
 |o::os,S=>match gz Γ o S with
  |some S'=>(kE S o,gu S o)::mH Γ os S'
  |none=>[]
def sZ (a b:List Nat):Bool:=a.all fun x=>!b.contains x
def xw (fs:List (List Nat×List Nat)) (ps:List (Nat×Nat)):Bool:=
 ps.all fun x=>match fs[x.1]?,fs[x.2]? with
  |some (r1,w1),some (r2,w2)=>sZ w1 r2&&sZ w2 r1
  |_,_=>false
inductive Out where
 |fail
 |norm (L:AL)
 |exit (id:Nat) (L:AL)
 |ret (L:AL)
 deriving Inhabited
def iter (f:AL→Out):Nat→AL→Out
 |0,_=>.fail
 |n+1,L=>match f L with
  |.norm L'=>iter f n L'
  |o=>o
def my (Γ:Env) (live:List Nat) (aQ:List (Nat×Nat)) (ops:List PO) (draw:Option (List (Nat×Nat))) (L:AL):Out:=
 if (match draw with
  |none=>true
  |some ps=>ps.isEmpty||xw (mH Γ ops L.st) ps) then
  match jv Γ ops L.st with
  |some S=>.norm (settle live aQ S)
  |none=>.fail
 else .fail
def uy (Γ:Env):Option (List (Nat×List V×V))→Prop
 |some cs=>∀c∈cs,Γ c.1 c.2.1=some (c.2.2,[])
 |none=>False
open Classical in
noncomputable def dw (Γ:Env) (fuel:Nat):PC→AL→Out
 |.ext calls f,L=>if uy Γ (calls L) then (match f L with
  |some L'=>.norm L'
  |none=>.fail) else .fail
 |.skip,L=>.norm L
 |.ff live aQ ops draw,L=>my Γ live aQ ops draw L
 |.seq a b,L=>match dw Γ fuel a L with
  |.norm L'=>dw Γ fuel b L'
  |o=>o
 |.cond x a b,L=>match (L.st.ev x).asBool with
  |some t=>if t then dw Γ fuel a L else dw Γ fuel b L
  |none=>.fail
 |.uE id c,L=>match dw Γ fuel c L with
  |.exit i L'=>if i=id then .norm L' else .exit i L'
  |o=>o
 |.loop c,L=>iter (dw Γ fuel c) fuel L
 |.exit id,L=>.exit id L
 |.ret,L=>.ret L
def f_:Nat→List V→AL
 |_,[]=>[]
 |i,x::xs=>(i,(imp i x).1,(imp i x).2)::f_ (i+1) xs
def Ct (L:AL):PR→Option AV
 |.s n=>some (L.get n).1
 |.b n size agg=>match oW L.st.ms size (L.get n).1 with
  |some l=>if agg then some (.agg l) else match l with
   |[a]=>some a
   |_=>none
  |none=>none
def wk (L:AL) (m:Ms):List PR→Option (List V×Ms)
 |[]=>some ([],m)
 |r::rs=>match Ct L r with
  |some a=>match ml m a with
   |some (x,m')=>match wk L m' rs with
    |some (xs,xv)=>some (x::xs,xv)
    |none=>none
   |none=>none
  |none=>none
def um (i:Nat):Nat→List C→List (Nat×Nat×C)
 |_,[]=>[]
 |j,c::cs=>if c.gx then (i,j,c)::um i (j+1) cs else um i (j+1) cs
def xU (i:Nat):Nat→List C→List (Nat×Nat×C)
 |_,[]=>[]
 |j,c::cs=>(i,j,c)::xU i (j+1) cs
def se (xs:List V) (m:Ms):List Nat→Option (List (Nat×Nat×C))
 |[]=>some []
 |i::is=>match (match (m i).1,xs[i]? with
  |some (.aX cs),some x=>if cs.length≤x.flat.length then some (um i 0 cs) else none
  |some (.bx cs),some (.ptr _)=>some (xU i 0 cs)
  |_,_=>none) with
  |some l=>match se xs m is with
   |some l2=>some (l++l2)
   |none=>none
  |none=>none
def B3 (m:Ms):AV→Option (V×Ms)
 |.bx r 0=>match (m r).1 with
  |some (.bx cs)=>if cs.all C.dP then some (.ptr cs,bO m r (none,[])) else none
  |_=>none
 |a=>ml m a
def AG (F:PF) (L:AL):Option (V×Ms):=
 match F.res with
 |[r]=>match Ct L r with
  |some a=>B3 L.st.ms a
  |none=>none
 |rs=>match wk L L.st.ms rs with
  |some (ys,m)=>some (.cf ys,m)
  |none=>none
def finish (F:PF) (xs:List V) (L:AL):Option (V×List (Nat×Nat×C)):=
 match AG F L with
 |some (x,m)=>match se xs m F.io with
  |some us=>some (x,us)
  |none=>none
 |none=>none
def V.sN:V→Bool
 |.one c=>c.dP
 |.st cs|.ptr cs=>cs.all C.dP
 |.cf _=>false
noncomputable def prun (Γ:Env) (fuel:Nat) (F:PF) (xs:List V):Option (V×List (Nat×Nat×C)):=
 if xs.all V.sN&&F.io.all (fun i=>((f_ 0 xs).get i).2.isSome) then
  match dw Γ fuel F.body (f_ 0 xs) with
  |.ret L|.norm L=>finish F xs L
  |_=>none
 else none
end
def F9:List D→List D→Bool
 |[.int _ t,.int _ n,.str s],[.int _ t',.int _ n',.str s']=>if t=t' then (if n=n' then Op.bytesLess s.toList s'.toList else decide (n<n')) else decide (t<t')
 |_,_=>false
def aeq (x y:List D):Int:=if F9 x y=true then -1 else if F9 y x=true then 1 else 0
def U_:List D→Bool
 |[.int .i64 _,.int .i64 _,.str _]=>true
 |_=>false
def UM (es:List (List D)):List (List D):=es.mergeSort fun x y=>!F9 y x
def IA:AL→Option (List (Nat×List V×V))
 |[(0,.pl 0 0 [],some (.aX [.own (.sl 3 es)])),(1,.v _ (.fn g []),none)]=>
  if es.all U_=true∧es.length<4611686018427387904 then
   some (es.flatMap fun x=>es.map fun y=>(g,[.st (x.map (.ro false)),.st (y.map (.ro false))],.one (.ro false (.int .i64 (aeq x y)))))
  else none
 |_=>none
def UN:AL→Option AL
 |[(0,.pl 0 0 [],some (.aX [.own (.sl 3 es)])),(1,.v k (.fn g []),none)]=>
  some [(0,.pl 0 0 [],some (.aX [.own (.sl 3 (UM es))])),(1,.v k (.fn g []),none)]
 |_=>none
def aiU:List (Nat×Nat):=[(1,189),(8,134),(9,95),(10,102),(12,131),(13,54),(14,63),(15,56),(16,135),(19,184),(20,30),(21,23),(22,133),(27,141),(29,140),(38,61),(39,27),(45,107),(48,29),(52,183),(54,160),(57,17),(58,139),(59,136),(60,243),(63,161),(67,215),(68,281),(69,179),(70,178),(71,157),(72,156),(73,94),(74,230),(75,290),(76,231),(77,138),(78,216),(79,301),(81,214),(82,132),(83,101),(84,280),(85,279),(86,218),(87,55),(141,15),(142,147),(143,67),(144,222),(145,221),(146,65),(147,148),(148,69),(149,150),(150,71),(151,66),(152,68),(153,284),(154,336),(155,224),(156,220),(157,146),(158,226),(159,285),(160,225),(161,335),(162,282),(163,149),(164,70),(165,283),(166,223),(167,10),(168,85),(169,172),(171,83),(172,87),(173,89),(174,84),(175,86),(176,174),(177,170),(178,175),(179,171),(180,88),(181,173),(182,14),(183,78),(184,165),(186,76),(187,80),(188,82),(189,77),(190,79),(191,168),(192,163),(193,169),(194,164),(195,81),(196,167),(197,166),(198,13),(199,99),(209,182),(210,109),(211,33),(212,197),(213,196),(214,31),(215,35),(216,111),(217,37),(218,32),(219,34),(220,268),(221,329),(222,199),(223,108),(224,201),(225,269),(226,200),(227,328),(228,266),(229,110),(230,36),(231,267),(232,198),(233,6),(234,127),(235,49),(236,209),(237,208),(238,47),(239,128),(240,51),(241,130),(242,53),(243,48),(244,50),(245,276),(246,333),(247,211),(248,207),(249,126),(250,213),(251,277),(252,212),(253,332),(254,274),(255,129),(256,52),(257,275),(258,210),(259,8),(264,118),(265,97),(266,105),(268,112),(269,38),(270,114),(271,40),(296,119),(298,191),(300,24),(301,115),(308,121),(318,41),(319,28),(320,271),(322,204),(323,291),(333,203),(335,154),(336,295),(338,18),(339,120),(340,116),(341,256),(344,155),(347,293),(349,331),(350,330),(353,227),(355,286),(356,288),(357,240),(358,181),(359,238),(360,235),(362,96),(363,180),(368,151),(370,113),(372,202),(374,270),(375,93),(376,177),(377,39),(378,239),(379,90),(380,365),(381,366),(382,292),(383,341),(384,316),(385,342),(387,229),(390,272),(391,273),(392,206),(393,300),(394,340),(395,337),(396,338),(397,228),(398,241),(399,92),(400,287),(401,294),(402,263),(404,242),(411,2),(414,3),(416,4),(420,5),(424,219),(427,7),(428,9),(429,26),(430,25),(431,11),(432,12),(439,16),(440,19),(441,20),(442,21),(443,22),(446,117),(449,137),(450,42),(451,43),(452,44),(453,45),(454,46),(455,57),(456,58),(457,59),(458,60),(459,62),(460,64),(461,104),(462,106),(463,103),(464,72),(465,73),(466,74),(467,75),(471,91),(472,98),(473,100),(477,298),(481,254),(482,122),(483,123),(484,124),(485,125),(486,142),(487,143),(488,144),(489,145),(490,192),(491,193),(492,194),(493,195),(494,185),(495,186),(496,187),(497,188),(498,190),(499,152),(500,153),(501,158),(502,159),(503,162),(504,176),(505,373),(508,377),(511,205),(512,217),(513,257),(514,258),(515,259),(516,260),(517,261),(518,262),(519,264),(520,265),(521,244),(522,245),(523,246),(524,247),(525,248),(526,249),(527,250),(528,251),(529,252),(530,253),(531,255),(532,232),(533,233),(534,234),(535,236),(536,237),(537,278),(538,317),(539,318),(540,319),(541,320),(542,321),(543,322),(544,323),(545,324),(546,325),(547,326),(548,327),(549,302),(550,303),(551,304),(552,305),(553,306),(554,307),(555,308),(556,309),(557,310),(558,311),(559,312),(560,313),(561,314),(562,315),(563,289),(564,296),(565,297),(566,299),(567,334),(568,354),(569,355),(570,356),(571,357),(572,358),(573,359),(574,360),(575,361),(576,362),(577,363),(578,364),(579,343),(580,344),(581,345),(582,346),(583,347),(584,348),(585,349),(586,350),(587,351),(588,352),(589,353),(590,339),(591,374),(592,375),(593,367),(594,368),(595,369),(596,370),(597,371),(598,372),(599,376),(600,378),(601,379),(602,380),(603,381),(604,382),(605,383),(606,384),(607,385),(608,386),(609,387),(610,388),(611,389),(612,390),(613,391),(614,392),(1068,281)]
def mh (n:Nat):FuncId:=(aiU.lookup n).getD 0
inductive gR where
 |no|nz|kQ
 |own (r j:Nat) (p:bQ)
 |box (r:Nat)
def gR.eG:gR→Bool
 |.own ..|.box _=>true
 |_=>false
def kc (k:Bool):gR:=if k then .kQ else .nz
structure Gh where
 cl:Nat→gR
 hd:Nat→Nat→bQ→Value
 bk:Nat→Nat
inductive RO (w:World) (cl:Nat→gR) (k:Bool):D→Value→Prop
 |int (kd:IntKind) (n:Int):RO w cl k (.int kd n) (.int kd n)
 |bool (b:Bool):RO w cl k (.bool b) (.bool b)
 |str (s:ByteArray):RO w cl k (.str s) (.string s)
 |dead (v:Value):RO w cl k .dead v
 |emp (sz:Nat) (a:Option Addr) (cap:Nat):RO w cl k (.sl sz []) (.slice a 0 cap)
 |sl (sz:Nat) (es:List (List D)) (b off cap:Nat):
  cl b=kc k→(∀e∈es,e.length=sz)→es.length≤cap→
  (∀i j,i<es.length→j<sz→(w.cell? ⟨b,off+i*sz+j,none⟩).isSome)→
  (∀i j e d x,es[i]?=some e→e[j]?=some d→w.cell? ⟨b,off+i*sz+j,none⟩=some x→RO w cl k d x)→
  RO w cl k (.sl sz es) (.slice (some ⟨b,off,none⟩) es.length cap)
 |fn (g:Nat):RO w cl k (.fn g []) (.func (.func (mh g)) #[] #[])
 |CW (g:Nat) (ds:List D) (b:Nat):ds≠[]→cl b=kc k→
  (∀i,i<ds.length→(w.cell? ⟨b,i,none⟩).isSome)→
  (∀i d x,ds[i]?=some d→w.cell? ⟨b,i,none⟩=some x→RO w cl k d x)→
  RO w cl k (.fn g ds) (.func (.func (mh g)) #[] #[.pointer (some ⟨b,0,none⟩)])
 |rp (ds:List D) (b:Nat):ds≠[]→cl b=kc k→
  (∀i,i<ds.length→(w.cell? ⟨b,i,none⟩).isSome)→
  (∀i d x,ds[i]?=some d→w.cell? ⟨b,i,none⟩=some x→RO w cl k d x)→
  RO w cl k (.rp ds) (.pointer (some ⟨b,0,none⟩))
inductive OW (w:World) (g:Gh) (r j:Nat):bQ→D→Value→Prop
 |int (p:bQ) (kd:IntKind) (n:Int):OW w g r j p (.int kd n) (.int kd n)
 |bool (p:bQ) (b:Bool):OW w g r j p (.bool b) (.bool b)
 |str (p:bQ) (s:ByteArray):OW w g r j p (.str s) (.string s)
 |dead (p:bQ) (v:Value):g.hd r j p=v→OW w g r j p .dead v
 |nil (p:bQ) (sz:Nat):g.hd r j p=.slice none 0 0→OW w g r j p (.sl sz []) (.slice none 0 0)
 |sl (p:bQ) (sz:Nat) (es:List (List D)) (b off cap:Nat) (vals:Array Value) (E:TypeId):
  g.hd r j p=.slice (some ⟨b,off,none⟩) es.length cap→
  g.cl b=.own r j p→(∀e∈es,e.length=sz)→es.length≤cap→
  w.heap[b]?=some (.cells vals E)→off+cap*sz≤vals.size→
  (∀i c e d x,es[i]?=some e→e[c]?=some d→vals[off+i*sz+c]?=some x→OW w g r j (p++[(i,c)]) d x)→
  OW w g r j p (.sl sz es) (.slice (some ⟨b,off,none⟩) es.length cap)
inductive RC (w:World) (g:Gh) (r j:Nat):C→Value→Prop
 |ro (k:Bool) (d:D) (v:Value):RO w g.cl k d v→RC w g r j (.ro k d) v
 |own (d:D) (v:Value):OW w g r j [] d v→RC w g r j (.own d) v
 |rf (r' j':Nat) (b:Option Addr) (n c:Nat):g.hd (r'+1) j' []=.slice b n c→RC w g r j (.rf r' j') (.slice b n c)
def sM (w:World) (g:Gh) (n:Nat):Rt→Prop
 |.aX cs=>∀j c,cs[j]?=some c→RC w g (n+1) j c (g.hd (n+1) j [])
 |.bx cs=>g.cl (g.bk n)=.box n∧∃vals E,w.heap[g.bk n]?=some (.cells vals E)∧vals.size=cs.length∧
  ∀j c x,cs[j]?=some c→vals[j]?=some x→RC w g (n+1) j c x
def nC (v:Value) (sz lo hi:Nat):Value:=
 match v with
 |.slice a _ cap=>.slice (if cap=lo then a else a.map (·.add (lo*sz))) (hi-lo) (cap-lo)
 |v=>v
def yf (v:Value) (o:Nat):Value:=
 match v with
 |.slice (some a) _ _=>.pointer (some ⟨a.block,a.off+o,none⟩)
 |_=>.nilIface
inductive RA (w:World) (g:Gh) (m:Ms):AV→Value→Prop
 |un (v:Value):RA w g m .un v
 |v (k:Bool) (d:D) (x:Value):RO w g.cl k d x→RA w g m (.v k d) x
 |nl (sz:Nat):RA w g m (.nl sz) (.slice none 0 0)
 |agg (cs:List AV) (vs:Array Value):cs.length=vs.size→
  (∀(i:Nat) (a:AV) (x:Value),cs[i]?=some a→vs[i]?=some x→RA w g m a x)→RA w g m (.agg cs) (.agg vs)
 |cf (cs:List AV) (vs:Array Value):cs.length=vs.size→
  (∀(i:Nat) (a:AV) (x:Value),cs[i]?=some a→vs[i]?=some x→RA w g m a x)→RA w g m (.cf cs) (.tuple vs)
 |pl (r j:Nat) (p:bQ) (b:Option Addr) (n c:Nat):(m.eC r j p=false→Value.slice b n c=g.hd (r+1) j p)→RA w g m (.pl r j p) (.slice b n c)
 |rg (r j:Nat) (p:bQ) (sz lo hi:Nat) (b:Option Addr) (n c:Nat):(m.eC r j p=false→Value.slice b n c=nC (g.hd (r+1) j p) sz lo hi)→
  RA w g m (.rg r j p sz lo hi) (.slice b n c)
 |bx (r j:Nat):RA w g m (.bx r j) (.pointer (some ⟨g.bk r,j,none⟩))
 |ad (r j:Nat) (p:bQ) (sz i c b o:Nat):(m.eC r j p=false→Value.pointer (some ⟨b,o,none⟩)=yf (g.hd (r+1) j p) (i*sz+c))→
  RA w g m (.ad r j p sz i c) (.pointer (some ⟨b,o,none⟩))
 |ra (k:Bool) (sz:Nat) (es:List (List D)) (i c b off cap:Nat):
  RO w g.cl k (.sl sz es) (.slice (some ⟨b,off,none⟩) es.length cap)→i<es.length→
  RA w g m (.ra k sz es i c) (.pointer (some ⟨b,off+i*sz+c,none⟩))
 |fv (f r:Nat):RA w g m (.fv f r) (.func (.func (mh f)) #[] #[.pointer (some ⟨g.bk r,0,none⟩)])
structure il (w w':World):Prop where
 os:w'.os=w.os
 out:w'.output=w.output
 fz:∀a,(w.heap[a.block]?).isSome=true→(w'.heap[a.block]?).isSome=true∧w'.frozen? a=w.frozen? a
 tp:w'.tape=w.tape
 dr:w.drawn≤w'.drawn
theorem il.refl (w:World):il w w:=⟨rfl,rfl,fun _ h=>⟨h,rfl⟩,rfl,zp _⟩
theorem il.trans {w w' Cz:World} (h:il w w') (h':il w' Cz):il w Cz:=⟨h'.os.trans h.os,h'.out.trans h.out,fun a i=>⟨(h'.fz a (h.fz a i).1).1,(h'.fz a (h.fz a i).1).2.trans (h.fz a i).2⟩,h'.tp.trans h.tp,Nat.le_trans h.dr h'.dr⟩
theorem il.of {w w':World} {b:Nat} (os:w'.os=w.os) (out:w'.output=w.output) (tp:w'.tape=w.tape) (dr:w.drawn≤w'.drawn) (h:∀b',b'≠b→w'.heap[b']?=w.heap[b']?)
 (h1:w.heap[b]?=none∨∃v E,w.heap[b]?=some (.cells v E)) (h2:∃v E,w'.heap[b]?=some (.cells v E)):il w w':=by
 refine ⟨os,out,fun a i=>?_,tp,dr⟩;by_cases e:a.block=b
 ·obtain ⟨v,E,h2⟩:=h2;refine ⟨by rw [e,h2];rfl,?_⟩;rcases h1 with h1|⟨v',E',h1⟩<;>simp [World.frozen?,e,h1,h2]
 ·refine ⟨by rw [h _ e];exact i,?_⟩;simp [World.frozen?,h _ e]
theorem cell_of {w w':World} {b:Nat} (h:w'.heap[b]?=w.heap[b]?) (o:Nat) (s:Option Nat):w'.cell? ⟨b,o,s⟩=w.cell? ⟨b,o,s⟩:=by
 simp [World.cell?,h]
theorem rL {w:World} {b o:Nat} {vals:Array Value} {E:TypeId} {fz:Nat×Nat} (h:w.heap[b]?=some (.cells vals E fz)):
 w.cell? ⟨b,o,none⟩=vals[o]?:=by simp [World.cell?,h]
theorem vY {i n sz j off cap N:Nat} (hi:i<n) (hj:j<sz) (hc:n≤cap) (hN:off+cap*sz≤N):off+i*sz+j<N:=by
 have h1:(i+1)*sz≤cap*sz:=zn sz (by omega);rw [Nat.succ_mul] at h1;omega
theorem pA {es:List (List D)} {i sz:Nat} {e:List D} (h:∀e∈es,e.length=sz) (he:es[i]?=some e):e.length=sz:=
 h e (List.mem_of_getElem? he)
theorem cY {α:Type} {l:List α} {i:Nat} {x:α} (h:l[i]?=some x):i<l.length:=by
 rcases zH i l.length with hl|hl
 ·exact hl
 ·simp [zN hl] at h
theorem RO.mono {w w':World} {cl cl':Nat→gR} {k k':Bool} {d:D} {v:Value} (h:RO w cl k d v)
 (hb:∀b,cl b=kc k→w'.heap[b]?=w.heap[b]?∧cl' b=kc k'):RO w' cl' k' d v:=by
 induction h with
 |int=>exact .int _ _
 |bool=>exact .bool _
 |str=>exact .str _
 |dead=>exact .dead _
 |emp=>exact .emp _ _ _
 |sl sz es b off cap hc hl ew hs _ ih=>
  have cW:=hb b hc;refine .sl sz es b off cap cW.2 hl ew (fun i j hi hj=>?_) (fun i j e d x he hd hx=>?_)
  ·rw [cell_of cW.1];exact hs i j hi hj
  ·rw [cell_of cW.1] at hx;exact ih i j e d x he hd hx
 |fn=>exact .fn _
 |CW g ds b cE hc hs _ ih=>
  have cW:=hb b hc;refine .CW g ds b cE cW.2 (fun i hi=>?_) (fun i d x hd hx=>?_)
  ·rw [cell_of cW.1];exact hs i hi
  ·rw [cell_of cW.1] at hx;exact ih i d x hd hx
 |rp ds b cE hc hs _ ih=>
  have cW:=hb b hc;refine .rp ds b cE cW.2 (fun i hi=>?_) (fun i d x hd hx=>?_)
  ·rw [cell_of cW.1];exact hs i hi
  ·rw [cell_of cW.1] at hx;exact ih i d x hd hx
theorem OW.mono {w w':World} {g g':Gh} {r j r' j':Nat} {q:bQ} {d:D} {v:Value} (h:OW w g r j q d v):
 ∀{q':bQ},(∀b ρ,g.cl b=.own r j (q++ρ)→w'.heap[b]?=w.heap[b]?∧g'.cl b=.own r' j' (q'++ρ))→
  (∀ρ,g'.hd r' j' (q'++ρ)=g.hd r j (q++ρ))→OW w' g' r' j' q' d v:=by
 induction h with
 |int=>exact fun _ _=>.int _ _ _
 |bool=>exact fun _ _=>.bool _ _
 |str=>exact fun _ _=>.str _ _
 |dead p v hh=>exact fun _ h2=>.dead _ _ (by have:=h2 [];simp only [zJ] at this;rw [this,hh])
 |nil p sz hh=>exact fun _ h2=>.nil _ _ (by have:=h2 [];simp only [zJ] at this;rw [this,hh])
 |sl p sz es b off cap vals E hh hc hl ew hv hN _ ih=>
  intro q' h1 h2;have hb:=h1 b [] (by simpa using hc);have hh':=h2 [];simp only [zJ] at hb hh';refine .sl q' sz es b off cap vals E (by rw [hh',hh]) hb.2 hl ew (by rw [hb.1];exact hv) hN (fun i c e d x he hd hx=>?_);refine ih i c e d x he hd hx (fun b ρ hb=>?_) (fun ρ=>?_)
  ·have:=h1 b ((i,c)::ρ) (by simpa using hb);simpa using this
  ·have:=h2 ((i,c)::ρ);simpa using this
theorem OW.borrow {w w':World} {g:Gh} {cl':Nat→gR} {r j:Nat} {q:bQ} {d:D} {v:Value} (h:OW w g r j q d v)
 (h1:∀b ρ,g.cl b=.own r j (q++ρ)→w'.heap[b]?=w.heap[b]?∧cl' b=.kQ):RO w' cl' true d v:=by
 induction h with
 |int=>exact .int _ _
 |bool=>exact .bool _
 |str=>exact .str _
 |dead=>exact .dead _
 |nil=>exact .emp _ _ _
 |sl p sz es b off cap vals E hh hc hl ew hv hN _ ih=>
  have hb:=h1 b [] (by simpa using hc);have hv':w'.heap[b]?=some (.cells vals E):=by rw [hb.1];exact hv
  refine .sl sz es b off cap hb.2 hl ew (fun i c hi hc=>?_) (fun i c e d x he hd hx=>?_)
  ·rw [rL hv'];have:=vY (off:=off) hi hc ew hN;simp [this]
  ·rw [rL hv'] at hx;refine ih i c e d x he hd hx (fun b ρ hb=>?_);exact h1 b ((i,c)::ρ) (by simpa using hb)
theorem OW.nh {w:World} {g:Gh} {r j:Nat} {p:bQ} {sz:Nat} {es:List (List D)} {v:Value} (h:OW w g r j p (.sl sz es) v):
 v=g.hd r j p:=by
 cases h with
 |nil _ _ h=>exact h.symm
 |sl _ _ _ _ _ _ _ _ h=>exact h.symm
theorem OW.slice {w:World} {g:Gh} {r j:Nat} {p:bQ} {sz:Nat} {es:List (List D)} {v:Value} (h:OW w g r j p (.sl sz es) v):
 ∃b n c,v=.slice b n c:=by
 cases h with
 |nil=>exact ⟨_,_,_,rfl⟩
 |sl=>exact ⟨_,_,_,rfl⟩
theorem OW.kt {w:World} {g:Gh} {r j:Nat}:∀(p:bQ) {q:bQ} {d0 d:D} {v:Value},OW w g r j q d0 v→d0.kt p=some d→
 ∃x,OW w g r j (q++p) d x:=by
 intro p;induction p with
 |nil=>intro q d0 d v h hd;simp [D.kt] at hd;subst hd;exact ⟨v,by simpa using h⟩
 |cons s p ih=>
  intro q d0 d v h hd;obtain ⟨i,c⟩:=s;cases d0 with
  |sl sz es=>
   simp only [D.kt] at hd;cases he:es[i]? with
   |none=>simp [he] at hd
   |some e=>
    cases ni:e[c]? with
    |none=>simp [he,ni] at hd
    |some d1=>
     simp [he,ni] at hd;cases h with
     |nil=>simp at he
     |sl _ _ _ b off cap vals E hh hc hl ew hv hN hk=>
      have h1:=pA hl he;have h2:=cY ni;have h3:=vY (off:=off) (cY he) (h1▸h2) ew hN;obtain ⟨x,hx⟩:=ih (hk i c e d1 _ he ni (by simp [h3];rfl)) hd;exact ⟨x,by simpa using hx⟩
  |_=>simp [D.kt] at hd
theorem OW.put {w w':World} {g g':Gh} {r j:Nat}:∀(p:bQ) {q:bQ} {d0 old y:D} {v:Value},OW w g r j q d0 v→d0.kt p=some old→
 (∀b ρ,g.cl b=.own r j ρ→¬(q++p <+: ρ)→w'.heap[b]?=w.heap[b]?∧g'.cl b=.own r j ρ)→
 (∀ρ,¬(q++p <+: ρ)→g'.hd r j ρ=g.hd r j ρ)→
 (∀x,OW w g r j (q++p) old x→OW w' g' r j (q++p) y x)→OW w' g' r j q (d0.put p y) v:=by
 intro p;induction p with
 |nil=>intro q d0 old y v h hd _ _ hn;simp [D.kt] at hd;subst hd;simpa [D.put] using hn v (by simpa using h)
 |cons s p ih=>
  intro q d0 old y v h hd hb hh hn;obtain ⟨i,c⟩:=s;cases d0 with
  |sl sz es=>
   simp only [D.kt] at hd;cases he:es[i]? with
   |none=>simp [he] at hd
   |some e=>
    cases ni:e[c]? with
    |none=>simp [he,ni] at hd
    |some d1=>
     simp [he,ni] at hd;simp only [D.put,he,ni]
     have iY:¬(q++(i,c)::p <+: q):=by
      intro hp;have:=hp.length_le;simp at this;omega
     cases h with
     |nil=>simp at he
     |sl _ _ _ b off cap vals E fk hc hl ew hv hN hk=>
      have jr:=hb b q hc iY;have hh0:=hh q iY;have hlen:(es.set i (e.set c (d1.put p y))).length=es.length:=by simp
      rw [←hlen];refine .sl q sz _ b off cap vals E (by rw [hh0,fk,hlen]) jr.2 ?_ (by rw [hlen];exact ew) (by rw [jr.1];exact hv) hN ?_
      ·intro e' js;rcases List.mem_or_eq_of_mem_set js with h|h
       ·exact hl _ h
       ·subst h;simp;exact pA hl he
      ·intro i' c' e' d' x js lx hx;by_cases hi:i'=i
       ·subst hi;have ai:=cY he;rw [zf ai] at js;cases js;by_cases iX:c'=c
        ·subst iX;have kU:=cY ni;rw [zf kU] at lx;cases lx;refine ih (hk i' c' e d1 x he ni hx) hd ?_ ?_ ?_
         ·intro b ρ h1 h2;exact hb b ρ h1 (by simpa using h2)
         ·intro ρ h2;exact hh ρ (by simpa using h2)
         ·intro x hx;have:=hn x (by simpa using hx);simpa using this
        ·rw [zj (by omega)] at lx;refine (hk i' c' e d' x he lx hx).mono (fun b ρ h1=>hb b _ h1 ?_) (fun ρ=>hh _ ?_)
         all_goals
          intro hp;rw [zi,zz] at hp;simp at hp;exact iX hp.1.symm
       ·rw [zj (by omega)] at js;refine (hk i' c' e' d' x js lx hx).mono (fun b ρ h1=>hb b _ h1 ?_) (fun ρ=>hh _ ?_)
        all_goals
         intro hp;rw [zi,zz] at hp;simp at hp;exact hi hp.1.1.symm
  |_=>simp [D.kt] at hd
structure fS where
 g:Gh
 io:List Nat
instance:CoeFun fS (fun _=>Nat→gR):=⟨fun I=>I.g.cl⟩
def E3 (I:fS) (i:Nat) (rt:Option Rt) (g:Gh):Prop:=
 match rt with
 |some (.aX _)=>∀j,g.hd (i+1) j []=I.g.hd (i+1) j []
 |some (.bx _)=>g.bk i=I.g.bk i
 |none=>False
structure Rel (w0:World) (cl0:fS) (S:St) (ts:Array Value) (w:World) (g:Gh):Prop where
 av:∀n,RA w g S.ms (S.av n) (ts.getD n undef)
 rt:∀n rt,(S.ms n).1=some rt→sM w g n rt
 kI:∀n r,r∈(S.av n).refs→((S.ms r).1).isSome
 jN:∀(n:Nat) (rt:Rt) (j r j':Nat),(S.ms n).1=some rt→rt.cells[j]?=some (C.rf r j')→∃cs,(S.ms r).1=some (.aX cs)
 bd:∀b,g.cl b≠.no→b<w.heap.size
 sz:w0.heap.size≤w.heap.size
 fr:∀b,b<w0.heap.size→(cl0 b).eG=false→w.heap[b]?=w0.heap[b]?
 im:∀b k,g.cl b=kc k↔cl0 b=kc k
 mi:∀b,b<w0.heap.size→(g.cl b).eG=true→(cl0 b).eG=true
 sd:il w0 w
 j8:∀i∈cl0.io,E3 cl0 i (S.ms i).1 g
theorem Gb {as:List AV} {i:Nat} {a:AV} {r:Nat} (h:as[i]?=some a) (hr:r∈a.refs):r∈AV.ea as:=by
 induction as generalizing i with
 |nil=>simp at h
 |cons b as ih=>
  simp only [AV.ea,zS];cases i with
  |zero=>simp at h;subst h;exact .inl hr
  |succ i=>simp at h;exact .inr (ih h)
theorem RA.mono {w w':World} {g g':Gh} {m m':Ms} {a:AV} {x:Value} (h:RA w g m a x)
 (hb:∀b k,g.cl b=kc k→w'.heap[b]?=w.heap[b]?∧g'.cl b=kc k):
 (∀r∈a.refs,g'.bk r=g.bk r∧∀j p,m'.eC r j p=false→m.eC r j p=false∧g'.hd (r+1) j p=g.hd (r+1) j p)→
 RA w' g' m' a x:=by
 induction h with
 |un=>exact fun _=>.un _
 |v k d x h=>exact fun _=>.v k d x (h.mono fun b hc=>hb b k hc)
 |nl=>exact fun _=>.nl _
 |agg cs vs hl _ ih=>exact fun hr=>.agg cs vs hl fun i a x ha hx=>ih i a x ha hx fun r h=>hr r (by simpa [AV.refs] using Gb ha h)
 |cf cs vs hl _ ih=>exact fun hr=>.cf cs vs hl fun i a x ha hx=>ih i a x ha hx fun r h=>hr r (by simpa [AV.refs] using Gb ha h)
 |pl r j p b n c h=>exact fun hr=>.pl r j p b n c fun hk=>(by
  have:=(hr r (by simp [AV.refs])).2 j p hk;rw [this.2];exact h this.1)
 |rg r j p sz lo hi b n c h=>exact fun hr=>.rg r j p sz lo hi b n c fun hk=>(by
  have:=(hr r (by simp [AV.refs])).2 j p hk;rw [this.2];exact h this.1)
 |bx r j=>exact fun hr=>(by
  have:=(hr r (by simp [AV.refs])).1;rw [←this];exact .bx r j)
 |ad r j p sz i c b o h=>exact fun hr=>.ad r j p sz i c b o fun hk=>(by
  have:=(hr r (by simp [AV.refs])).2 j p hk;rw [this.2];exact h this.1)
 |ra k sz es i c b off cap h hi=>exact fun _=>.ra k sz es i c b off cap (h.mono fun b hc=>hb b k hc) hi
 |fv f r=>exact fun hr=>(by
  have:=(hr r (by simp [AV.refs])).1;rw [←this];exact .fv f r)
theorem RC.mono {w w':World} {g g':Gh} {r j r' j':Nat} {c:C} {x:Value} (h:RC w g r j c x)
 (hb:∀b k,g.cl b=kc k→w'.heap[b]?=w.heap[b]?∧g'.cl b=kc k)
 (h1:∀b ρ,g.cl b=.own r j ρ→w'.heap[b]?=w.heap[b]?∧g'.cl b=.own r' j' ρ)
 (h2:∀ρ,g'.hd r' j' ρ=g.hd r j ρ) (h3:∀r1 j1,c=C.rf r1 j1→g'.hd (r1+1) j1 []=g.hd (r1+1) j1 []):
 RC w' g' r' j' c x:=by
 cases h with
 |ro k d _ h=>exact .ro k d _ (h.mono fun b hc=>hb b k hc)
 |own d _ h=>exact .own d _ (h.mono (q':=[]) (by simpa using h1) (by simpa using h2))
 |rf r1 j1 b n c hh=>exact .rf r1 j1 b n c (by rw [h3 r1 j1 rfl];exact hh)
theorem sM.mono {w w':World} {g g':Gh} {n:Nat} {rt:Rt} (h:sM w g n rt)
 (hb:∀b k,g.cl b=kc k→w'.heap[b]?=w.heap[b]?∧g'.cl b=kc k)
 (h1:∀b j ρ,g.cl b=.own (n+1) j ρ→w'.heap[b]?=w.heap[b]?∧g'.cl b=.own (n+1) j ρ)
 (hx:∀cs,rt=.bx cs→g'.bk n=g.bk n∧w'.heap[g.bk n]?=w.heap[g.bk n]?∧g'.cl (g.bk n)=g.cl (g.bk n))
 (h2:∀j ρ,g'.hd (n+1) j ρ=g.hd (n+1) j ρ)
 (h3:∀(j r1 j1:Nat),rt.cells[j]?=some (C.rf r1 j1)→g'.hd (r1+1) j1 []=g.hd (r1+1) j1 []):sM w' g' n rt:=by
 cases rt with
 |aX cs=>
  intro j c hc;rw [h2];exact (h j c hc).mono hb (fun b ρ=>h1 b j ρ) (fun ρ=>h2 j ρ) (fun r1 j1 e=>h3 j r1 j1 (by subst e;exact hc))
 |bx cs=>
  obtain ⟨hk,hw,hc⟩:=hx cs rfl;obtain ⟨h4,vals,E,h5,h6,h7⟩:=h;refine ⟨by rw [hk,hc];exact h4,vals,E,by rw [hk,hw];exact h5,h6,fun j c x h8 h9=>?_⟩;exact (h7 j c x h8 h9).mono hb (fun b ρ=>h1 b j ρ) (fun ρ=>h2 j ρ) (fun r1 j1 e=>h3 j r1 j1 (by subst e;exact h8))
def Gh.tk (g:Gh) (r j:Nat) (p:bQ) (q:Nat) (v:Value):Gh where
 cl:=fun b=>match g.cl b with
  |.own r1 j1 ρ=>if r1=r+1∧j1=j∧p <+: ρ then .own 0 q (ρ.drop p.length) else .own r1 j1 ρ
  |c=>c
 hd:=fun r1 j1 ρ=>if r1=0∧j1=q then (if ρ=[] then v else g.hd (r+1) j (p++ρ)) else g.hd r1 j1 ρ
 bk:=g.bk
theorem Gh.U1 {g:Gh} {r j:Nat} {p:bQ} {q:Nat} {v:Value} {b:Nat} {k:Bool}:(g.tk r j p q v).cl b=kc k↔g.cl b=kc k:=by
 simp only [Gh.tk,kc];cases h:g.cl b<;>simp;split<;>cases k<;>simp
theorem aiV {k:Bool} {r j:Nat} {p:bQ}:kc k≠.own r j p:=by cases k<;>simp [kc]
theorem Gh.amP {g:Gh} {r j:Nat} {p:bQ} {q:Nat} {v:Value} {b:Nat}:((g.tk r j p q v).cl b).eG=(g.cl b).eG:=by
 simp only [Gh.tk];cases h:g.cl b<;>simp only [];split<;>rfl
theorem Gh.amQ {g:Gh} {r j:Nat} {p:bQ} {q:Nat} {v:Value} {b:Nat}:(g.tk r j p q v).cl b=.no↔g.cl b=.no:=by
 simp only [Gh.tk];cases h:g.cl b<;>simp;split<;>simp
theorem Gh.U2 {g:Gh} {r j:Nat} {p:bQ} {q:Nat} {v:Value} {b r1 j1:Nat} {ρ:bQ} (h:g.cl b=.own r1 j1 ρ)
 (hn:¬(r1=r+1∧j1=j∧p <+: ρ)):(g.tk r j p q v).cl b=.own r1 j1 ρ:=by
 simp only [Gh.tk,h,if_neg hn]
theorem MA {m:Ms} {r:Nat} {c:Option Rt} {kl:List (Nat×bQ)} {r1 j:Nat} {p:bQ}
 (h:Ms.eC (bO m r (c,kl++(m r).2)) r1 j p=false):m.eC r1 j p=false:=by
 simp only [Ms.eC,bO] at h ⊢;split at h
 ·rename_i e;subst e;simp [List.any_append] at h;simp;exact fun a b xg=>h.2 a b xg
 ·exact h
theorem V5 {rt:Rt} {j:Nat} {c:C}:(rt.lL j c).cells=rt.cells.set j c:=by cases rt<;>rfl
theorem sM.put {w w':World} {g g':Gh} {n:Nat} {rt:Rt} {j:Nat} {p:bQ} {d0 old y:D} (h:sM w g n rt)
 (hc:rt.cells[j]?=some (.own d0)) (hd:d0.kt p=some old)
 (hb:∀b k,g.cl b=kc k→w'.heap[b]?=w.heap[b]?∧g'.cl b=kc k)
 (h1:∀b j1 ρ,g.cl b=.own (n+1) j1 ρ→¬(j1=j∧p <+: ρ)→w'.heap[b]?=w.heap[b]?∧g'.cl b=.own (n+1) j1 ρ)
 (hx:∀cs,rt=.bx cs→g'.bk n=g.bk n∧w'.heap[g.bk n]?=w.heap[g.bk n]?∧g'.cl (g.bk n)=g.cl (g.bk n))
 (h2:∀j1 ρ,¬(j1=j∧p <+: ρ)→g'.hd (n+1) j1 ρ=g.hd (n+1) j1 ρ)
 (h2v:∀cs,rt=.aX cs→g'.hd (n+1) j []=g.hd (n+1) j [])
 (h3:∀(j r1 j1:Nat),rt.cells[j]?=some (C.rf r1 j1)→g'.hd (r1+1) j1 []=g.hd (r1+1) j1 [])
 (hn:∀x,OW w g (n+1) j p old x→OW w' g' (n+1) j p y x):sM w' g' n (rt.lL j (.own (d0.put p y))):=by
 have key:∀x,RC w g (n+1) j (.own d0) x→RC w' g' (n+1) j (.own (d0.put p y)) x:=by
  intro x hx;cases hx with
  |own d v ho=>
   refine .own _ _ (OW.put p ho hd (fun b ρ h4 h5=>h1 b j ρ h4 (by simpa using h5)) (fun ρ h5=>h2 j ρ (by simpa using h5)) (by simpa using hn))
 cases rt with
 |aX cs=>
  intro j1 c rU;simp only [Rt.cells] at hc h3;by_cases e:j1=j
  ·subst e;rw [zf (cY hc)] at rU;cases rU;rw [h2v cs rfl];exact key _ (h j1 _ hc)
  ·rw [zj (by omega)] at rU;rw [h2 j1 [] (by simp [e])];exact (h j1 c rU).mono hb (fun b ρ h4=>h1 b j1 ρ h4 (by simp [e])) (fun ρ=>h2 j1 ρ (by simp [e])) (fun r1 j2 e2=>h3 j1 r1 j2 (by subst e2;exact rU))
 |bx cs=>
  obtain ⟨hk,hw,hcb⟩:=hx cs rfl;obtain ⟨h4,vals,E,h5,h6,h7⟩:=h;simp only [Rt.cells] at hc h3;refine ⟨by rw [hk,hcb];exact h4,vals,E,by rw [hk,hw];exact h5,by simpa using h6,fun j1 c x h8 h9=>?_⟩;by_cases e:j1=j
  ·subst e;rw [zf (cY hc)] at h8;cases h8;exact key _ (h7 j1 _ x hc h9)
  ·rw [zj (by omega)] at h8;exact (h7 j1 c x h8 h9).mono hb (fun b ρ h4=>h1 b j1 ρ h4 (by simp [e])) (fun ρ=>h2 j1 ρ (by simp [e])) (fun r1 j2 e2=>h3 j1 r1 j2 (by subst e2;exact h8))
theorem kP {m:Ms} {r j:Nat} {p:bQ} {d:D} (h:m.at r j p=some d):
 m.eC r j p=false∧∃rt d0,(m r).1=some rt∧rt.cells[j]?=some (.own d0)∧d0.kt p=some d:=by
 simp only [Ms.at,Ms.cell] at h;split at h
 ·simp at h
 ·rename_i hk;refine ⟨by simpa using hk,?_⟩;cases hm:(m r).1 with
  |none=>simp [hm] at h
  |some rt=>
   simp only [hm] at h;cases hc:rt.cells[j]? with
   |none=>simp [hc] at h
   |some c=>
    cases c with
    |own d0=>simp only [hc] at h;exact ⟨rt,d0,rfl,hc,h⟩
    |_=>simp [hc] at h
theorem Rel.at {w0:World} {cl0:fS} {S:St} {ts:Array Value} {w:World} {g:Gh} (R:Rel w0 cl0 S ts w g)
 {r j:Nat} {p:bQ} {d:D} (h:S.ms.at r j p=some d):∃x,OW w g (r+1) j p d x:=by
 obtain ⟨_,rt,d0,h1,h2,h3⟩:=kP h;have h4:=R.rt r rt h1;cases rt with
 |aX cs=>
  have:=h4 j _ h2;generalize g.hd (r+1) j []=v at this;cases this with
  |own _ _ ho=>simpa using ho.kt p h3
 |bx cs=>
  obtain ⟨_,vals,E,_,h6,h7⟩:=h4;have ai:j<vals.size:=by rw [h6];exact cY h2
  have:=h7 j _ vals[j] h2 (by simp [ai]);cases this with
  |own _ _ ho=>simpa using ho.kt p h3
section
theorem Bd {m m':Ms} {r j:Nat} {p:bQ} {d:D} (h:m.take r j p=some (d,m')):
 ∃sz es rt d0,d=.sl sz es∧m.at r j p=some (.sl sz es)∧(m r).1=some rt∧rt.cells[j]?=some (.own d0)∧d0.kt p=some (.sl sz es)∧
  m'=bO m r (some (rt.lL j (.own (d0.put p .dead))),(m r).2):=by
 simp only [Ms.take] at h;split at h
 ·rename_i sz es ha;obtain ⟨_,rt,d0,h1,h2,h3⟩:=kP ha;simp only [Ms.putAt,h1,h2] at h;simp at h;exact ⟨sz,es,rt,d0,h.1.symm,ha,h1,h2,h3,h.2.symm⟩
 ·simp at h
theorem qK {α:Type} {f:Nat→α} {n:Nat} {x:α}:bO f n x n=x:=by simp [bO]
theorem mW {α:Type} {f:Nat→α} {n k:Nat} {x:α} (h:k≠n):bO f n x k=f k:=by simp [bO,h]
section
variable {w0:World} {cl0:fS} {S:St} {ts:Array Value} {w:World} {g:Gh}
theorem EJ {m:Ms} {r:Nat} {rt':Rt} {kl:List (Nat×bQ)} {k:Nat} (h:((m k).1).isSome):((bO m r (some rt',kl) k).1).isSome:=by
 by_cases e:k=r
 ·subst e;simp [bO]
 ·simpa [bO,e] using h
theorem acp {m:Ms} {r j:Nat} {rt:Rt} {c0:C} {kl:List (Nat×bQ)} (fw:(m r).1=some rt) (hc:∀r' j',c0≠.rf r' j')
 (H:∀(n:Nat) (rt:Rt) (j r j':Nat),(m n).1=some rt→rt.cells[j]?=some (C.rf r j')→∃cs,(m r).1=some (.aX cs)):
 ∀(n:Nat) (ga:Rt) (j1 r1 F5:Nat),(bO m r (some (rt.lL j c0),kl) n).1=some ga→ga.cells[j1]?=some (C.rf r1 F5)→
  ∃cs,(bO m r (some (rt.lL j c0),kl) r1).1=some (.aX cs):=by
 intro n ga j1 r1 F5 h1 h2
 have:∃cs,(m r1).1=some (.aX cs):=by
  by_cases e:n=r
  ·subst e;simp [bO] at h1;subst h1;rw [V5] at h2;by_cases e2:j1=j
   ·subst e2;rcases zH j1 rt.cells.length with hl|hl
    ·rw [zf hl] at h2;cases h2;exact absurd rfl (hc _ _)
    ·rw [zN (by simpa using hl)] at h2;cases h2
   ·rw [zj (by omega)] at h2;exact H n rt j1 r1 F5 fw h2
  ·simp [bO,e] at h1;exact H n ga j1 r1 F5 h1 h2
 obtain ⟨cs,h3⟩:=this;by_cases e:r1=r
 ·subst e;rw [fw] at h3;cases h3;exact ⟨cs.set j c0,by simp [bO,Rt.lL]⟩
 ·exact ⟨cs,by simpa [bO,e] using h3⟩
theorem Rel.take (R:Rel w0 cl0 S ts w g) {r j:Nat} {p:bQ} {d:D} {m':Ms} (ht:S.ms.take r j p=some (d,m')) (q:Nat) (v:Value):
 Rel w0 cl0 { S with ms:=m' } ts w (g.tk r j p q v):=by
 obtain ⟨sz,es,rt,d0,rfl,ha,h1,h2,h3,rfl⟩:=Bd ht;have g9:∀b k,g.cl b=kc k→w.heap[b]?=w.heap[b]?∧(g.tk r j p q v).cl b=kc k:=fun b k h=>⟨rfl,Gh.U1.2 h⟩
 have fk:∀n j1 ρ,(g.tk r j p q v).hd (n+1) j1 ρ=g.hd (n+1) j1 ρ:=fun n j1 ρ=>by simp [Gh.tk]
 refine { av:=fun n=>?_,rt:=fun n ga h4=>?_,kI:=fun n r1 h4=>EJ (R.kI n r1 h4),jN:=acp h1 (by simp) R.jN,
          bd:=fun b h4=>R.bd b (by rwa [ne_eq,Gh.amQ] at h4),sz:=R.sz,fr:=R.fr,im:=fun b k=>Gh.U1.trans (R.im b k),
          mi:=fun b h4 h5=>R.mi b h4 (by rwa [Gh.amP] at h5),sd:=R.sd,
          j8:=fun i hi=>?_ }
 rotate_left 2
 ·have h4:=R.j8 i hi;by_cases e:i=r
  ·subst e;rw [h1] at h4;simp only [bO,if_true];cases rt with
   |aX cs=>exact fun j1=>(fk _ _ _).trans (h4 j1)
   |bx cs=>exact h4
  ·simp only [mW e];revert h4;cases (S.ms i).1 with
   |none=>exact id
   |some ga=>
    cases ga with
    |aX cs=>exact fun h4 j1=>(fk _ _ _).trans (h4 j1)
    |bx cs=>exact id
 ·refine (R.av n).mono g9 (fun r1 _=>⟨rfl,fun j1 p1 h4=>⟨?_,fk _ _ _⟩⟩);exact MA (m:=S.ms) (kl:=[]) (by simpa using h4)
 ·by_cases e:n=r
  ·subst e;simp [bO] at h4;subst h4
   refine (R.rt n rt h1).put h2 h3 g9 (fun b j1 ρ h5 h6=>⟨rfl,Gh.U2 h5 (by simpa using h6)⟩) (fun cs _=>⟨rfl,rfl,?_⟩)
    (fun j1 ρ _=>fk _ _ _) (fun _ _=>fk _ _ _) (fun _ _ _ _=>fk _ _ _) (fun x hx=>.dead _ _ ((fk _ _ _).trans hx.nh.symm))
   have:=R.rt n rt h1;rename_i rT;subst rT;simp only [Gh.tk,this.1]
  ·simp only [mW e] at h4
   refine (R.rt n ga h4).mono g9 (fun b j1 ρ h5=>⟨rfl,Gh.U2 h5 (by simp [e])⟩) (fun cs hb=>⟨rfl,rfl,?_⟩)
    (fun j1 ρ=>fk _ _ _) (fun _ _ _ _=>fk _ _ _)
   have:=R.rt n ga h4;subst hb;simp only [Gh.tk,this.1]
theorem Rel.amR (R:Rel w0 cl0 S ts w g) {r j:Nat} {p:bQ} {d:D} {m':Ms} (ht:S.ms.take r j p=some (d,m')) (q:Nat):
 OW w (g.tk r j p q (g.hd (r+1) j p)) 0 q [] d (g.hd (r+1) j p):=by
 obtain ⟨sz,es,rt,d0,rfl,ha,h1,h2,h3,rfl⟩:=Bd ht;obtain ⟨x,hx⟩:=R.at ha;have DE:=hx.nh;subst DE;refine hx.mono (fun b ρ h=>⟨rfl,?_⟩) (fun ρ=>?_)
 ·simp [Gh.tk,h]
 ·simp only [Gh.tk,List.nil_append,and_self,if_true];split
  ·rename_i e;subst e;simp
  ·rfl
theorem Rel.amS (R:Rel w0 cl0 S ts w g) {r j:Nat} {p:bQ} {sz:Nat} {es:List (List D)} {m':Ms} (ht:S.ms.take r j p=some (.sl sz es,m')) (q hi:Nat)
 (tv:hi≤es.length):
 OW w (g.tk r j p q (nC (g.hd (r+1) j p) sz 0 hi)) 0 q [] (.sl sz (es.take hi)) (nC (g.hd (r+1) j p) sz 0 hi):=by
 obtain ⟨EM,CV,rt,d0,e1,ha,h1,h2,h3,rfl⟩:=Bd ht;cases e1;obtain ⟨x,hx⟩:=R.at ha;have DE:=hx.nh;subst DE;generalize hv:g.hd (r+1) j p=v at hx;cases hx with
 |nil=>
  simp only [nC,zV];have:hi=0:=by simpa using tv
  subst this;refine .nil _ _ (by simp [Gh.tk])
 |sl _ _ _ b off cap vals E hh hc hl ew hw hN hk=>
  have hlen:(es.take hi).length=hi:=by simp;omega
  have lC:nC (.slice (some ⟨b,off,none⟩) es.length cap) sz 0 hi=.slice (some ⟨b,off,none⟩) (es.take hi).length cap:=by
   simp only [nC,Nat.zero_mul,Nat.sub_zero,hlen];split<;>simp [Addr.add]
  rw [lC];refine .sl _ _ _ b off cap vals E (by simp [Gh.tk]) (by simp [Gh.tk,hc]) (fun e he=>hl e (zo he)) (by omega) hw hN ?_;intro i c e d x he hd hx
  have js:es[i]?=some e:=by
   rw [zg] at he;split at he
   ·exact he
   ·cases he
  refine (hk i c e d x js hd hx).mono (fun b ρ h=>⟨rfl,?_⟩) (fun ρ=>?_)
  ·simp [Gh.tk,h]
  ·simp [Gh.tk]
structure jA (N:Nat→Prop) (g:Gh) (m:Ms) (g':Gh) (m':Ms):Prop where
 kc:∀b k,g'.cl b=kc k↔g.cl b=kc k
 hd:∀n j ρ,g'.hd (n+1) j ρ=g.hd (n+1) j ρ
 bk:g'.bk=g.bk
 kl:∀r,(m' r).2=(m r).2
 cl0:∀b q ρ,¬N q→g.cl b=.own 0 q ρ→g'.cl b=.own 0 q ρ
 qs:∀q ρ,¬N q→g'.hd 0 q ρ=g.hd 0 q ρ
 so:∀r,((m r).1).isSome→((m' r).1).isSome
 no:∀r,(m r).1=none→(m' r).1=none
 bx:∀b r,g.cl b=.box r→g'.cl b=.box r
theorem jA.refl (N:Nat→Prop) (g:Gh) (m:Ms):jA N g m g m:=
 ⟨fun _ _=>.rfl,fun _ _ _=>rfl,rfl,fun _=>rfl,fun _ _ _ _ h=>h,fun _ _ _=>rfl,fun _ h=>h,fun _ h=>h,fun _ _ h=>h⟩
theorem jA.Bj {N N':Nat→Prop} {g g':Gh} {m m':Ms} (h:jA N g m g' m') (hN:∀q,N q→N' q):jA N' g m g' m':=
 ⟨h.kc,h.hd,h.bk,h.kl,fun b q ρ hq=>h.cl0 b q ρ fun e=>hq (hN q e),fun q ρ hq=>h.qs q ρ fun e=>hq (hN q e),h.so,h.no,h.bx⟩
theorem jA.trans {N:Nat→Prop} {g g1 g2:Gh} {m m1 m2:Ms} (h:jA N g m g1 m1) (h':jA N g1 m1 g2 m2):jA N g m g2 m2:=
 ⟨fun b k=>(h'.kc b k).trans (h.kc b k),fun n j ρ=>(h'.hd n j ρ).trans (h.hd n j ρ),h'.bk.trans h.bk,fun r=>(h'.kl r).trans (h.kl r),
  fun b q ρ jt hb=>h'.cl0 b q ρ jt (h.cl0 b q ρ jt hb),fun q ρ jt=>(h'.qs q ρ jt).trans (h.qs q ρ jt),
  fun r hr=>h'.so r (h.so r hr),fun r hr=>h'.no r (h.no r hr),fun b r hb=>h'.bx b r (h.bx b r hb)⟩
theorem jA.ra {N:Nat→Prop} {g g':Gh} {m m':Ms} {w:World} (h:jA N g m g' m') {a:AV} {x:Value} (ha:RA w g m a x):RA w g' m' a x:=
 ha.mono (fun b k hb=>⟨rfl,(h.kc b k).2 hb⟩) (fun r _=>⟨by rw [h.bk],fun j p hk=>⟨by simpa only [Ms.eC,h.kl] using hk,h.hd _ _ _⟩⟩)
theorem jA.rc {N:Nat→Prop} {g g':Gh} {m m':Ms} {w:World} (h:jA N g m g' m') {q:Nat} (hq:¬N q) {c:C} {x:Value} (ha:RC w g 0 q c x):RC w g' 0 q c x:=
 ha.mono (fun b k hb=>⟨rfl,(h.kc b k).2 hb⟩) (fun b ρ hb=>⟨rfl,h.cl0 b q ρ hq hb⟩) (fun ρ=>h.qs q ρ hq) (fun _ _ _=>h.hd _ _ _)
theorem jA.ow {N:Nat→Prop} {g g':Gh} {m m':Ms} {w:World} (h:jA N g m g' m') {q:Nat} (hq:¬N q) {c:D} {x:Value} (ha:OW w g 0 q [] c x):OW w g' 0 q [] c x:=
 ha.mono (fun b ρ hb=>⟨rfl,h.cl0 b q _ hq hb⟩) (fun ρ=>h.qs q _ hq)
theorem jA.tk {m:Ms} {r j:Nat} {p:bQ} {d:D} {m':Ms} (ht:m.take r j p=some (d,m')) (g:Gh) (q:Nat) (v:Value):jA (·=q) g m (g.tk r j p q v) m':=by
 obtain ⟨sz,es,rt,d0,rfl,ha,h1,h2,h3,rfl⟩:=Bd ht
 refine ⟨fun _ _=>Gh.U1,fun n j1 ρ=>by simp [Gh.tk],rfl,fun r1=>?_,fun b q1 ρ hq hb=>Gh.U2 hb (by simp),fun q1 ρ hq=>?_,
  fun r1 h=>EJ h,fun r1 h=>?_,fun b r1 hb=>by simp [Gh.tk,hb]⟩
 ·by_cases e:r1=r
  ·subst e;simp [bO]
  ·simp [bO,e]
 ·simp [Gh.tk,hq]
 ·by_cases e:r1=r
  ·subst e;rw [h1] at h;cases h
  ·simpa [bO,e] using h
theorem Fq {d:Option D} {sz lo hi:Nat} {es:List (List D)} (h:ym d sz lo hi=some es):
 ∃rQ,d=some (.sl sz rQ)∧lo≤hi∧hi≤rQ.length∧es=(rQ.take hi).drop lo:=by
 unfold ym at h;split at h
 ·split at h
  ·rename_i hh;obtain ⟨h1,h2,h3⟩:=hh;subst h1;exact ⟨_,rfl,h2,h3,by simpa using h.symm⟩
  ·cases h
 ·cases h
theorem CD {S:St} (R:Rel w0 cl0 S ts w g) {a:AV} {c:C} {x:Value} {m':Ms} (ha:RA w g S.ms a x) (h:iA S.ms a=some (c,m')) (q:Nat):
 ∃g',Rel w0 cl0 { S with ms:=m' } ts w g'∧jA (·=q) g S.ms g' m'∧RC w g' 0 q c x:=by
 unfold iA at h;split at h
 ·cases h
 ·rename_i k d _;simp at h;obtain ⟨rfl,rfl⟩:=h;cases ha with
  |v _ _ _ hr=>exact ⟨g,R,.refl _ _ _,.ro _ _ _ hr⟩
 ·rename_i sz;simp at h;obtain ⟨rfl,rfl⟩:=h;cases ha with
  |nl=>
   refine ⟨{ g with hd:=fun r1 j1 ρ=>if r1=0∧j1=q then .slice none 0 0 else g.hd r1 j1 ρ },?_,⟨fun _ _=>.rfl,fun n j ρ=>by simp,rfl,fun _=>rfl,fun _ _ _ _ h=>h,fun q1 ρ hq=>?_,fun _ h=>h,fun _ h=>h,fun _ _ h=>h⟩,.own _ _ (.nil _ _ (by simp))⟩
   ·exact { av:=fun n=>(R.av n).mono (fun b k h=>⟨rfl,h⟩) (fun r _=>⟨rfl,fun j p hk=>⟨hk,by simp⟩⟩),
            rt:=fun n rt h=>(R.rt n rt h).mono (fun b k h=>⟨rfl,h⟩) (fun b j ρ h=>⟨rfl,h⟩) (fun _ _=>⟨rfl,rfl,rfl⟩) (fun j ρ=>by simp) (fun _ _ _ _=>by simp),
            kI:=R.kI,jN:=R.jN,bd:=R.bd,sz:=R.sz,fr:=R.fr,im:=R.im,mi:=R.mi,sd:=R.sd,j8:=R.j8 }
   ·simp [hq]
 ·rename_i r j p;split at h
  ·rename_i d m1 ht;simp at h;obtain ⟨rfl,rfl⟩:=h;cases ha with
   |pl _ _ _ _ _ _ hx=>
    obtain ⟨sz,es,rt,d0,rfl,cN,_⟩:=Bd ht;have hk:=(kP cN).1;rw [hx hk];exact ⟨_,R.take ht q _,.tk ht g q _,.own _ _ (R.amR ht q)⟩
  ·cases h
 ·rename_i r j p sz hi;split at h
  ·rename_i es d m1 hc ht;simp at h;obtain ⟨rfl,rfl⟩:=h;obtain ⟨rQ,cN,_,tv,rfl⟩:=Fq hc;obtain ⟨EM,CV,rt,d0,rfl,aaC,_⟩:=Bd ht;rw [cN] at aaC;cases aaC;cases ha with
   |rg _ _ _ _ _ _ _ _ _ hx=>
    have hk:=(kP cN).1;rw [hx hk];exact ⟨_,R.take ht q _,.tk ht g q _,.own _ _ (by simpa using R.amS ht q hi tv)⟩
  ·cases h
 ·cases h
theorem I_:∀(as:List AV) {S:St} {g:Gh} (R:Rel w0 cl0 S ts w g) {vals:List Value} {cs:List C} {m':Ms} (q:Nat),
 as.length=vals.length→(∀(i:Nat) (a:AV) (x:Value),as[i]?=some a→vals[i]?=some x→RA w g S.ms a x)→
 jC S.ms as=some (cs,m')→
 ∃g',Rel w0 cl0 { S with ms:=m' } ts w g'∧jA (fun x=>q≤x∧x<q+as.length) g S.ms g' m'∧cs.length=as.length∧
  ∀(i:Nat) (c:C) (x:Value),cs[i]?=some c→vals[i]?=some x→RC w g' 0 (q+i) c x:=by
 intro as;induction as with
 |nil=>
  intro S g R vals cs m' q hl hv h;simp [jC] at h;obtain ⟨rfl,rfl⟩:=h;exact ⟨g,R,.refl _ _ _,rfl,fun i c x hc=>by simp at hc⟩
 |cons a as ih=>
  intro S g R vals cs m' q hl hv h;cases vals with
  |nil=>simp at hl
  |cons v vals=>
   simp only [jC] at h;cases h1:iA S.ms a with
   |none=>simp [h1] at h
   |some cm=>
    obtain ⟨c,m1⟩:=cm;simp only [h1] at h;cases h2:jC m1 as with
    |none=>simp [h2] at h
    |some V'=>
     obtain ⟨Bz,m2⟩:=V';simp only [h2] at h;simp at h;obtain ⟨rfl,rfl⟩:=h;obtain ⟨g1,R1,T1,rU⟩:=CD R (hv 0 a v rfl rfl) h1 q
     obtain ⟨g2,R2,T2,dy,C7⟩:=ih (S:={ S with ms:=m1 }) R1 (vals:=vals) (q+1) (by simpa using hl)
      (fun i a x ha hx=>T1.ra (hv (i+1) a x ha hx)) h2
     refine ⟨g2,R2,(T1.Bj fun x h=>(by subst h;simp)).trans (T2.Bj fun x h=>(by simp only [List.length_cons];omega)),by simp [dy],fun i c1 x hc hx=>?_⟩;cases i with
     |zero=>simp at hc hx;subst hc;subst hx;exact T2.rc (by omega) rU
     |succ i=>
      have:=C7 i c1 x hc hx;rwa [show q+(i+1)=q+1+i from by omega]
end
end
section
section
variable {w0:World} {cl0:fS} {S:St} {ts:Array Value} {w:World} {g:Gh}
theorem Rel.slot (R:Rel w0 cl0 S ts w g) {d:Nat} {a:AV} {v:Value} (hd:d<ts.size) (ha:RA w g S.ms a v)
 (hr:∀r∈a.refs,((S.ms r).1).isSome):Rel w0 cl0 { S with av:=bO S.av d a } (ts.setIfInBounds d v) w g:=by
 refine { av:=fun n=>?_,rt:=R.rt,kI:=fun n r h=>?_,jN:=R.jN,bd:=R.bd,sz:=R.sz,fr:=R.fr,im:=R.im,mi:=R.mi,sd:=R.sd,j8:=R.j8 }
 ·by_cases e:n=d
  ·subst e;simp [bO,zm,hd];exact ha
  ·simp only [mW e]
   have:(ts.setIfInBounds d v).getD n undef=ts.getD n undef:=by
    simp [zm,Array.getElem?_setIfInBounds,Ne.symm e]
   rw [this];exact R.av n
 ·by_cases e:n=d
  ·subst e;simp [bO] at h;exact hr r h
  ·simp only [mW e] at h;exact R.kI n r h
structure h_ (d:Nat) (w w':World) (g g':Gh):Prop where
 hp:∀b,b<w.heap.size→(∀j ρ,g.cl b≠.own 0 j ρ)→w'.heap[b]?=w.heap[b]?
 hs:w.heap.size≤w'.heap.size
 kc:∀b k,g'.cl b=kc k↔g.cl b=kc k
 cl:∀b n j ρ,g.cl b=.own (n+1) j ρ→n≠d→g'.cl b=.own (n+1) j ρ
 bx:∀b n,g.cl b=.box n→n≠d→g'.cl b=.box n
 hd:∀n j ρ,n≠d→g'.hd (n+1) j ρ=g.hd (n+1) j ρ
 bk:∀n,n≠d→g'.bk n=g.bk n
 bd:∀b,g'.cl b≠.no→g.cl b≠.no∨(w.heap.size≤b∧b<w'.heap.size)
 mi:∀b,b<w.heap.size→(g'.cl b).eG=true→(g.cl b).eG=true
 sd:il w w'
theorem h_.refl (d:Nat) (w:World) (g:Gh):h_ d w w g g:=
 ⟨fun _ _ _=>rfl,zp _,fun _ _=>.rfl,fun _ _ _ _ h _=>h,fun _ _ h _=>h,fun _ _ _ _=>rfl,fun _ _=>rfl,fun _ h=>.inl h,fun _ _ h=>h,.refl _⟩
theorem Rel.fresh (R:Rel w0 cl0 S ts w g) {d:Nat} {rt:Rt} {w':World} {g':Gh} (hn:(S.ms d).1=none) (H:h_ d w w' g g')
 (fw:sM w' g' d rt) (vQ:∀(j r j':Nat),rt.cells[j]?=some (C.rf r j')→∃cs,(S.ms r).1=some (.aX cs)):
 Rel w0 cl0 { S with ms:=bO S.ms d (some rt,[]) } ts w' g':=by
 have ai:∀b,g.cl b≠.no→(∀j ρ,g.cl b≠.own 0 j ρ)→w'.heap[b]?=w.heap[b]?:=fun b hb=>H.hp b (R.bd b hb)
 have g9:∀b k,g.cl b=OM.kc k→w'.heap[b]?=w.heap[b]?∧g'.cl b=OM.kc k:=
  fun b k h=>⟨ai b (by rw [h];cases k<;>simp [OM.kc]) (by rw [h];cases k<;>simp [OM.kc]),(H.kc b k).2 h⟩
 have cE:∀r,((S.ms r).1).isSome→r≠d:=fun r h e=>by subst e;simp [hn] at h
 refine { av:=fun n=>?_,rt:=fun n ga h=>?_,kI:=fun n r h=>EJ (R.kI n r h),jN:=fun n ga j r j' h h1=>?_,
          bd:=fun b h=>?_,sz:=Nat.le_trans R.sz H.hs,fr:=fun b hb hm=>?_,im:=fun b k=>(H.kc b k).trans (R.im b k),
          mi:=fun b hb hm=>R.mi b hb (H.mi b (zA hb R.sz) hm),sd:=R.sd.trans H.sd,
          j8:=fun i hi=>(by
           have h:=R.j8 i hi;have cE:i≠d:=fun e=>by subst e;rw [hn] at h;exact h
           simp only [mW cE];revert h;cases (S.ms i).1 with
           |none=>exact id
           |some ga=>
            cases ga with
            |aX cs=>exact fun h j1=>(H.hd i j1 [] cE).trans (h j1)
            |bx cs=>exact fun h=>(H.bk i cE).trans h) }
 ·refine (R.av n).mono g9 (fun r hr=>?_);have:=cE r (R.kI n r hr);exact ⟨H.bk r this,fun j p hk=>⟨by simpa only [Ms.eC,mW this] using hk,H.hd r j p this⟩⟩
 ·by_cases e:n=d
  ·subst e;simp [bO] at h;subst h;exact fw
  ·simp only [mW e] at h;have h0:=R.rt n ga h;refine h0.mono g9 (fun b j ρ hb=>⟨ai b (by rw [hb];simp) (by rw [hb];simp),H.cl b n j ρ hb e⟩) (fun cs fY=>?_) (fun j ρ=>H.hd n j ρ e) (fun j r1 j1 hc=>?_)
   ·subst fY;exact ⟨H.bk n e,ai _ (by rw [h0.1];simp) (by rw [h0.1];simp),by rw [h0.1];exact H.bx _ _ h0.1 e⟩
   ·obtain ⟨cs,h2⟩:=R.jN n ga j r1 j1 h hc;exact H.hd r1 j1 [] (cE r1 (by simp [h2]))
 ·have:∃cs,(S.ms r).1=some (.aX cs):=by
   by_cases e:n=d
   ·subst e;simp [bO] at h;subst h;exact vQ j r j' h1
   ·simp only [mW e] at h;exact R.jN n ga j r j' h h1
  obtain ⟨cs,h2⟩:=this;exact ⟨cs,by simp only [mW (cE r (by simp [h2]))];exact h2⟩
 ·rcases H.bd b h with h1|h1
  ·exact zA (R.bd b h1) H.hs
  ·exact h1.2
 ·rw [H.hp b (zA hb R.sz) (fun j ρ h=>by
   have:=R.mi b hb (by rw [h];rfl)
   rw [this] at hm;cases hm)]
  exact R.fr b hb hm
structure adA (r b0:Nat) (aX:Bool) (m':Ms) (w w':World) (g g':Gh):Prop where
 hp:∀b,b≠b0→w'.heap[b]?=w.heap[b]?
 hs:w'.heap.size=w.heap.size
 ow:g.cl b0=.box r∨∃j ρ,g.cl b0=.own (r+1) j ρ
 kc:∀b k,g'.cl b=kc k↔g.cl b=kc k
 cl:∀b n j ρ,g.cl b=.own (n+1) j ρ→g'.cl b=.own (n+1) j ρ
 bx:∀b n,g.cl b=.box n→g'.cl b=.box n
 hd:∀n j ρ,n≠r→g'.hd (n+1) j ρ=g.hd (n+1) j ρ
 hr:∀j ρ,m'.eC r j ρ=false→g'.hd (r+1) j ρ=g.hd (r+1) j ρ
 hv:∀j,aX=true→g'.hd (r+1) j []=g.hd (r+1) j []
 bk:g'.bk=g.bk
 bd:∀b,g'.cl b≠.no→g.cl b≠.no
 mi:∀b,(g'.cl b).eG=true→(g.cl b).eG=true
 sd:il w w'
theorem Rel.V6 (R:Rel w0 cl0 S ts w g) {r b0:Nat} {rt rt':Rt} {kl:List (Nat×bQ)} {w':World} {g':Gh} (h0:(S.ms r).1=some rt)
 (Mi:rt.AB=rt'.AB)
 (H:adA r b0 rt.AB (bO S.ms r (some rt',kl++(S.ms r).2)) w w' g g') (fw:sM w' g' r rt')
 (vQ:∀(j r1 j':Nat),rt'.cells[j]?=some (C.rf r1 j')→∃cs,(S.ms r1).1=some (.aX cs)):
 Rel w0 cl0 { S with ms:=bO S.ms r (some rt',kl++(S.ms r).2) } ts w' g':=by
 have Kx:(g.cl b0).eG=true:=by rcases H.ow with h|⟨j,ρ,h⟩<;>rw [h]<;>rfl
 have g9:∀b k,g.cl b=OM.kc k→w'.heap[b]?=w.heap[b]?∧g'.cl b=OM.kc k:=fun b k h=>
  ⟨H.hp b (fun e=>by subst e;rw [h] at Kx;cases k<;>simp [OM.kc,gR.eG] at Kx),(H.kc b k).2 h⟩
 have aia:∀r1 cs,(S.ms r1).1=some (.aX cs)→∃rN,(bO S.ms r (some rt',kl++(S.ms r).2) r1).1=some (.aX rN):=by
  intro r1 cs h;by_cases e:r1=r
  ·subst e;rw [h0] at h;cases h;cases rt' with
   |aX rN=>exact ⟨rN,by simp [bO]⟩
   |bx=>simp [Rt.AB] at Mi
  ·exact ⟨cs,by simpa [bO,e] using h⟩
 refine { av:=fun n=>?_,rt:=fun n ga h=>?_,kI:=fun n r1 h=>EJ (R.kI n r1 h),jN:=fun n ga j r1 j' h h1=>?_,
          bd:=fun b h=>?_,sz:=by show _≤w'.heap.size;rw [H.hs];exact R.sz,fr:=fun b hb hm=>?_,im:=fun b k=>(H.kc b k).trans (R.im b k),
          mi:=fun b hb hm=>R.mi b hb (H.mi b hm),sd:=R.sd.trans H.sd,
          j8:=fun i hi=>(by
           have h:=R.j8 i hi;by_cases e:i=r
           ·subst e;rw [h0] at h;simp only [bO,if_true];cases rt with
            |aX cs=>
             cases rt' with
             |aX rN=>exact fun j1=>(H.hv j1 rfl).trans (h j1)
             |bx rN=>simp [Rt.AB] at Mi
            |bx cs=>
             cases rt' with
             |aX rN=>simp [Rt.AB] at Mi
             |bx rN=>exact (congrFun H.bk i).trans h
           ·simp only [mW e];revert h;cases (S.ms i).1 with
            |none=>exact id
            |some ga=>
             cases ga with
             |aX cs=>exact fun h j1=>(H.hd i j1 [] e).trans (h j1)
             |bx cs=>exact fun h=>(congrFun H.bk i).trans h) }
 ·refine (R.av n).mono g9 (fun r1 hr=>⟨by rw [H.bk],fun j p hk=>⟨MA hk,?_⟩⟩);by_cases e:r1=r
  ·subst e;exact H.hr j p hk
  ·exact H.hd r1 j p e
 ·by_cases e:n=r
  ·subst e;simp [bO] at h;subst h;exact fw
  ·simp only [mW e] at h;have h2:=R.rt n ga h;refine h2.mono g9 (fun b j ρ hb=>⟨H.hp b (fun e1=>?_),H.cl b n j ρ hb⟩) (fun cs fY=>?_) (fun j ρ=>H.hd n j ρ e) (fun j r1 j1 hc=>?_)
   ·subst e1;rcases H.ow with h3|⟨j3,ρ3,h3⟩<;>rw [h3] at hb
    ·cases hb
    ·simp at hb;exact e hb.1.symm
   ·subst fY;refine ⟨by rw [H.bk],H.hp _ (fun e1=>?_),by rw [h2.1];exact H.bx _ _ h2.1⟩;have h4:=h2.1;rw [e1] at h4;rcases H.ow with h3|⟨j3,ρ3,h3⟩<;>rw [h3] at h4
    ·cases h4;exact e rfl
    ·cases h4
   ·obtain ⟨cs,h3⟩:=R.jN n ga j r1 j1 h hc;by_cases e1:r1=r
    ·subst e1;rw [h0] at h3;cases h3;exact H.hv j1 rfl
    ·exact H.hd r1 j1 [] e1
 ·have:∃cs,(S.ms r1).1=some (.aX cs):=by
   by_cases e:n=r
   ·subst e;simp [bO] at h;subst h;exact vQ j r1 j' h1
   ·simp only [mW e] at h;exact R.jN n ga j r1 j' h h1
  obtain ⟨cs,h2⟩:=this;exact aia r1 cs h2
 ·show b<w'.heap.size;rw [H.hs];exact R.bd b (H.bd b h)
 ·by_cases e:b=b0
  ·subst e;have:=R.mi b hb Kx;rw [this] at hm;cases hm
  ·rw [H.hp b e];exact R.fr b hb hm
end
end
theorem ak0 {l vs:List Value} {o k:Nat} (h:o+vs.length≤l.length):
 (l.take o++vs++l.drop (o+vs.length)).toArray[k]?=if o≤k∧k<o+vs.length then vs[k-o]? else l[k]?:=by
 simp only [List.getElem?_toArray];by_cases h1:k<o
 ·rw [if_neg (by omega),zi,zG (by simp;omega),zd h1]
 ·by_cases h2:k<o+vs.length
  ·rw [if_pos ⟨by omega,h2⟩,zi,zC (by simp;omega)];simp only [zI];rw [show min o l.length=o from by omega,zG (by omega)]
  ·rw [if_neg (by omega),zC (by simp;omega)];simp only [zP,zI,zh];rw [show min o l.length=o from by omega];congr 1;omega
theorem il.alloc {w:World} (vals:Array Value) (E:TypeId):il w (w.alloc (.cells vals E)):=
 .of (b:=w.heap.size) rfl rfl rfl (zp _) (fun b' hb=>by
  rcases zH b' w.heap.size with h|h
  ·exact heap_alloc_old w _ b' h
  ·rw [zL (by simp;omega),zL (by omega)]) (.inl (by simp)) ⟨_,_,heap_alloc_new w _⟩
theorem US (P:Program) {w:World} {b o:Nat} {vals:Array Value} {E:TypeId} (hw:w.heap[b]?=some (.cells vals E)) (xs:List Value)
 (h:o+xs.length≤vals.size) (h1:∀x∈xs,x.oneCell'=true):
 ∃w' iK,(storeCells ⟨b,o,none⟩ xs 0).run P w=.ok () w'∧w'.heap[b]?=some (.cells iK E)∧iK.size=vals.size∧
  (∀k:Nat,iK[k]?=if o≤k∧k<o+xs.length then xs[k-o]? else vals[k]?)∧(∀b',b'≠b→w'.heap[b']?=w.heap[b']?)∧w'.heap.size=w.heap.size∧il w w':=by
 have hr:=run_storeCells_at (P:=P) b o E xs 0 vals w hw (by simpa using h) h1;simp only [Nat.add_zero] at hr
 refine ⟨_,_,hr,setRow_heap w b vals _ E _ hw,?_,fun k=>?_,fun b' hb=>setRow_other w b b' _ hb,setRow_size _ _ _,
  .of rfl rfl rfl (zp _) (fun b' hb=>setRow_other w b b' _ hb) (.inr ⟨_,_,hw⟩) ⟨_,_,setRow_heap w b vals _ E _ hw⟩⟩
 ·simp only [zR,zP,zI,List.length_drop,Array.length_toList];omega
 ·rw [ak0 (by simpa using h)];simp
theorem DN (P:Program) {w:World} {b o n:Nat} {xs:List Value} (hl:xs.length=n)
 (h:∀(k:Nat) (x:Value),xs[k]?=some x→w.cell? ⟨b,o+k,none⟩=some x):(loadCells ⟨b,o,none⟩ n).run P w=.ok xs.toArray w:=by
 rw [←hl];refine run_loadCells_list w ⟨b,o,none⟩ xs (fun j v hv=>?_);rw [Addr.add_lit];exact h j v hv
theorem VH (P:Program) {w:World} {t u ty e E0:TypeId} {i:TypeInfo} {z x:Value} {n:Nat} {news:List Value}
 (ht:P.underlying t=some (.slice e)) (hi:P.info? e=some i) (hz:i.zero=some z)
 (hx:(P.underlying u=some (.slice e)∧∃a c,x=.slice a n c)∨(P.underlying u=some .string∧∃s:ByteArray,x=.string s∧s.size=n)) (hf:∀w1:World,w1.heap=w.heap→(Builtin.firstCells i.size n x).run P w1=.ok news.toArray w1)
 (hl:news.length=n*i.size) (h1:∀y∈news,y.oneCell'=true)
 (base:Option Addr) (gf mU:Nat) (hb:(base=none∧gf=0∧mU=0)∨∃b off vals,base=some ⟨b,off,none⟩∧gf≤mU∧
  w.heap[b]?=some (.cells vals E0)∧off+mU*i.size≤vals.size) (vH:(gf+n)*i.bytes≤2^46) (h63:gf+n≤2^62):
 (∃(b off:Nat) (vals:Array Value) (w':World) (iK:Array Value),base=some ⟨b,off,none⟩∧gf+n≤mU∧w.heap[b]?=some (.cells vals E0)∧off+mU*i.size≤vals.size∧
  (Builtin.append_ #[t,u] ty #[.slice base gf mU,x]).run P w=.ok (.slice (some ⟨b,off,none⟩) (gf+n) mU) w'∧
  w'.heap[b]?=some (.cells iK E0)∧iK.size=vals.size∧
  (∀k:Nat,iK[k]?=if off+gf*i.size≤k∧k<off+gf*i.size+n*i.size then news[k-(off+gf*i.size)]? else vals[k]?)∧
  (∀b',b'≠b→w'.heap[b']?=w.heap[b']?)∧w'.heap.size=w.heap.size∧il w w')∨
 (base=none∧n=0∧(Builtin.append_ #[t,u] ty #[.slice base gf mU,x]).run P w=.ok (.slice none 0 0) w)∨
 (∃(cap:Nat) (iK:Array Value) (w':World) (rn:List Value),gf+n≤cap∧(Builtin.append_ #[t,u] ty #[.slice base gf mU,x]).run P w=.ok (.slice (some ⟨w.heap.size,0,none⟩) (gf+n) cap) w'∧
  w'.heap[w.heap.size]?=some (.cells iK e)∧w'.heap.size=w.heap.size+1∧il w w'∧(∀b',b'<w.heap.size→w'.heap[b']?=w.heap[b']?)∧
  (∀k:Nat,k<gf*i.size→iK[k]?=rn[k]?)∧rn.length=gf*i.size∧
  (∀k:Nat,k<n*i.size→iK[gf*i.size+k]?=news[k]?)∧(z.cells.size=i.size→cap*i.size=iK.size)∧
  (∀b off vals,base=some ⟨b,off,none⟩→w.heap[b]?=some (.cells vals E0)→∀k:Nat,k<gf*i.size→rn[k]?=vals[off+k]?)):=by
 have hmul:∀k,gf+n≤k→gf*i.size+n*i.size≤k*i.size:=fun k hk=>by rw [←zw];exact zn _ hk
 by_cases yT:gf+n≤mU
 ·rcases hb with ⟨rfl,rfl,rfl⟩|⟨b,off,vals,rfl,yU,hw,hN⟩
  ·right;left;have fK:n=0:=by omega
   subst fK;refine ⟨rfl,rfl,?_⟩;have tu:=hf w rfl;rcases hx with ⟨hu,a,c,rfl⟩|⟨hu,s,rfl,hs⟩
   ·simp [Builtin.append_,run_underlying ht,run_underlying hu,sizeOf,typeInfo,hi,Builtin.lenOf,tu]
   ·rw [←hs] at tu;simp [Builtin.append_,run_underlying ht,run_underlying hu,sizeOf,typeInfo,hi,Builtin.lenOf,hs,tu];try (rw [hs] at tu;simp [tu])
  ·left;obtain ⟨w',iK,hr,h2,h3,h4,h5,h6⟩:=US P hw (o:=off+gf*i.size) news (by rw [hl];have:=hmul mU yT;omega) h1;refine ⟨b,off,vals,w',iK,rfl,yT,hw,hN,?_,h2,h3,fun k=>by rw [h4,hl],h5,h6⟩;have tu:=hf w rfl;rcases hx with ⟨hu,a,c,rfl⟩|⟨hu,s,rfl,hs⟩
   ·simp [Builtin.append_,run_underlying ht,run_underlying hu,sizeOf,typeInfo,hi,Builtin.lenOf,yT,tu,Addr.add_lit,hr]
   ·simp [Builtin.append_,run_underlying ht,run_underlying hu,sizeOf,typeInfo,hi,Builtin.lenOf,hs,yT,tu,Addr.add_lit,hr]
 ·right;right;have aal:¬(9223372036854775807<((gf:Int)+(n:Int))):=by omega
  have aah:¬(281474976710656<Builtin.nextslicecap (gf+n) mU*i.bytes):=by
   have:=growslice_fits (need:=gf+n) (old:=mU) (bytes:=i.bytes) (by omega) (by omega);omega
  have aB:=grownCap_ge w (gf+n) mU e
  have hold:∃rn:List Value,rn.length=gf*i.size∧(∀w1:World,w1.heap=w.heap→(Builtin.firstCells i.size gf (.slice base gf mU)).run P w1=.ok rn.toArray w1)∧
   (∀b off vals,base=some ⟨b,off,none⟩→w.heap[b]?=some (.cells vals E0)→∀k:Nat,k<gf*i.size→rn[k]?=vals[off+k]?):=by
   rcases hb with ⟨rfl,rfl,rfl⟩|⟨b,off,vals,rfl,yU,hw,hN⟩
   ·exact ⟨[],by simp,fun w1 _=>by simp [Builtin.firstCells],fun _ _ _ h=>by cases h⟩
   ·have hle:gf*i.size≤mU*i.size:=zn _ yU;refine ⟨(vals.toList.drop off).take (gf*i.size),by simp;omega,fun w1 fZ=>?_,fun b1 abL am6 iV fZ k hk=>?_⟩
    ·simp only [Builtin.firstCells];refine DN P (by simp;omega) (fun k x hx=>?_);rw [rL (vals:=vals) (E:=E0) (fz:=(0,0)) (by rw [fZ];exact hw)];rw [zg] at hx;split at hx
     ·simpa using hx
     ·cases hx
    ·cases iV;rw [hw] at fZ;cases fZ;rw [zd hk];simp
  obtain ⟨rn,K0,Dl,ho3⟩:=hold
  refine ⟨grownCap w (gf+n) mU e,rn.toArray++news.toArray++Builtin.zeroCells z.cells (grownCap w (gf+n) mU e-(gf+n)),
   w.drew.alloc (.cells (rn.toArray++news.toArray++Builtin.zeroCells z.cells (grownCap w (gf+n) mU e-(gf+n))) e),rn,aB,?_,?_,?_,?_,?_,?_,K0,?_,?_,ho3⟩
  ·have tu:=hf w.drew rfl;have tD:=Dl w.drew rfl;rcases hx with ⟨hu,a,c,rfl⟩|⟨hu,s,rfl,hs⟩
   ·simp [Builtin.append_,run_underlying ht,run_underlying hu,sizeOf,typeInfo,zeroValue,hi,hz,Builtin.lenOf,yT,aal,aah,Question.forced,tu,tD,newRow,grownCap];congr 2;apply Array.ext';simp [zi]
   ·simp [Builtin.append_,run_underlying ht,run_underlying hu,sizeOf,typeInfo,zeroValue,hi,hz,Builtin.lenOf,hs,yT,aal,aah,Question.forced,tu,tD,newRow,grownCap];congr 2;apply Array.ext';simp [zi]
  ·exact heap_alloc_new w.drew _
  ·simp
  ·exact ⟨rfl,rfl,(il.alloc (w:=w.drew) _ _).fz,rfl,Nat.le_succ _⟩
  ·exact fun b' cW=>heap_alloc_old w.drew _ b' cW
  ·intro k hk;rw [zQ,zD (by simp;omega)];simp
  ·intro k hk;rw [zQ,Array.getElem?_append_right (by simp;omega),zD (by simp;omega)];simp [K0]
  ·intro oU;simp only [Array.size_append,zR,size_zeroCells,oU,K0,hl,←zw];congr 1;omega
section
def Live (m:Ms) (a:AV):Prop:=∀r∈a.refs,((m r).1).isSome
section
variable {w0:World} {cl0:fS} {S:St} {ts:Array Value} {w:World} {g:Gh} {m:Ms}
theorem RO.scalar {k:Bool} {d:D} {x:Value} {cl:Nat→gR} (h:RO w cl k d x) (hs:∀sz es,d≠.sl sz es) (hf:∀g ds,d≠.fn g ds) (hr:∀ds,d≠.rp ds):RO w cl false d x:=by
 cases h with
 |int=>exact .int _ _
 |bool=>exact .bool _
 |str=>exact .str _
 |dead=>exact .dead _
 |emp=>exact absurd rfl (hs _ _)
 |sl=>exact absurd rfl (hs _ _)
 |fn=>exact absurd rfl (hf _ _)
 |CW=>exact absurd rfl (hf _ _)
 |rp=>exact absurd rfl (hr _)
theorem Ge {k:Bool} {d:D} {x:Value} (h:RO w g.cl k d x):RA w g m (wi k d) x:=by
 unfold wi;split
 ·exact .v _ _ _ h
 ·exact .v _ _ _ h
 ·exact .v _ _ _ h
 ·rename_i h1 h2 h3;exact .v _ _ _ (h.scalar h1 h2 h3)
theorem Gf (k:Bool) (d:D):(wi k d).refs=[]:=by unfold wi;split<;>simp [AV.refs]
theorem OW.scalar {r j:Nat} {p:bQ} {d:D} {x:Value} (h:OW w g r j p d x) (hs:∀sz es,d≠.sl sz es) (hd:d≠.dead) (k:Bool):RO w g.cl k d x:=by
 cases h with
 |int=>exact .int _ _
 |bool=>exact .bool _
 |str=>exact .str _
 |dead=>exact absurd rfl hd
 |nil=>exact absurd rfl (hs _ _)
 |sl=>exact absurd rfl (hs _ _)
theorem Jr {r j:Nat} {p:bQ} {d:D} {x:Value} (h:OW w g (r+1) j p d x):RA w g m (vo r j p d) x:=by
 unfold vo;split
 ·obtain ⟨b,n,c,rfl⟩:=h.slice;exact .pl _ _ _ _ _ _ fun _=>h.nh
 ·exact .un _
 ·rename_i h1 h2;exact .v _ _ _ (h.scalar h1 h2 _)
theorem V3 {r j:Nat} {p:bQ} {d:D} (h:((m r).1).isSome):Live m (vo r j p d):=by
 unfold vo Live;split<;>simp [AV.refs,h]
theorem A_ {r j:Nat} {c:C} {x:Value} (h:RC w g (r+1) j c x):RA w g m (mR r j c) x:=by
 cases h with
 |ro k d _ h=>exact Ge h
 |own d _ h=>exact Jr h
 |rf r' j' b n c hh=>exact .pl _ _ _ _ _ _ fun _=>hh.symm
theorem akQ {r j:Nat} {c:C} (h:((m r).1).isSome) (hf:∀r' j',c=.rf r' j'→((m r').1).isSome):Live m (mR r j c):=by
 cases c with
 |ro k d=>simp [mR,Live,Gf]
 |own d=>exact V3 h
 |rf r' j'=>simp [mR,Live,AV.refs,hf r' j' rfl]
theorem adz {α:Type} {l:List α} {j k:Nat} {x:α×Nat} (h:(l.zipIdx)[k]?=some x):l[k]?=some x.1∧x.2=k:=by
 rw [List.getElem?_zipIdx] at h;simp only [zb] at h;obtain ⟨a,h1,rfl⟩:=h;simpa using h1
theorem BV {o:Option Rt} {rt:Rt} (h:o=some rt):o.isSome:=by rw [h];rfl
theorem abx (R:Rel w0 cl0 S ts w g) {a:AV} {v:Value} (ha:RA w g S.ms a v) {n:Nat} {Jg:List AV} (h:oW S.ms n a=some Jg):
 ∃(b o:Nat) (xs:List Value),v=.pointer (some ⟨b,o,none⟩)∧xs.length=n∧Jg.length=n∧
  (∀(k:Nat) (x:Value),xs[k]?=some x→w.cell? ⟨b,o+k,none⟩=some x)∧
  ∀(k:Nat) (av:AV) (x:Value),Jg[k]?=some av→xs[k]?=some x→RA w g S.ms av x∧Live S.ms av:=by
 cases ha with
 |bx r j=>
  simp only [oW] at h;cases hr:(S.ms r).1 with
  |none=>simp [hr] at h
  |some rt=>
   cases rt with
   |aX=>simp [hr] at h
   |bx cs=>
    simp only [hr] at h;split at h
    ·rename_i hle;simp at h;subst h;obtain ⟨aD,vals,E,hh,hs,hc⟩:=R.rt r _ hr;refine ⟨g.bk r,j,(vals.toList.drop j).take n,rfl,by simp;omega,by simp;omega,fun k x hx=>?_,fun k av x fG hx=>?_⟩
     ·rw [rL hh];rw [zg] at hx;split at hx
      ·simpa using hx
      ·cases hx
     ·simp only [ze,zb] at fG;obtain ⟨y,hy,rfl⟩:=fG;obtain ⟨uS,Mr⟩:=adz (j:=0) hy;rw [zg] at uS hx;split at hx
      ·rename_i hk;simp only [hk,if_true] at uS;simp only [zh,zO] at hx uS;subst Mr
       exact ⟨A_ (hc _ _ x uS hx),akQ (BV hr) fun r' j' e=>by
        obtain ⟨rN,h5⟩:=R.jN r _ (j+y.2) r' j' hr (by simpa [Rt.cells,e] using uS)
        exact BV h5⟩
      ·cases hx
    ·cases h
 |ad r j p sz i c b1 o1 hx=>
  simp only [oW] at h;cases cN:S.ms.at r j p with
  |none=>simp [cN] at h
  |some d=>
   cases d with
   |sl gH es=>
    simp only [cN] at h;cases he:es[i]? with
    |none=>simp [he] at h
    |some e=>
     simp only [he] at h;split at h
     ·rename_i hle;obtain ⟨hle,rfl⟩:=hle;simp at h;subst h;obtain ⟨x0,ho⟩:=R.at cN;have hv:=hx (kP cN).1;have:=ho.nh;subst this;obtain ⟨hk,rt,d0,fw,_,_⟩:=kP cN;generalize hg:g.hd (r+1) j p=v0 at ho hv;cases ho with
      |nil=>simp at he
      |sl _ _ _ b off cap vals E hh hc hl ew hw hN lA=>
       rw [hv];have pF:=pA hl he;have FR:=cY he;refine ⟨b,off+(i*gH+c),(vals.toList.drop (off+(i*gH+c))).take n,rfl,?_,by simp;omega,fun k x hx=>?_,fun k av x fG hx=>?_⟩
       ·have h1:(i+1)*gH≤cap*gH:=zn _ (by omega);rw [Nat.succ_mul] at h1;simp;omega
       ·rw [rL hw];rw [zg] at hx;split at hx
        ·simpa using hx
        ·cases hx
       ·simp only [ze,zb] at fG;obtain ⟨y,hy,rfl⟩:=fG;obtain ⟨uS,Mr⟩:=adz (j:=0) hy;rw [zg] at uS hx;split at hx
        ·rename_i hk;simp only [hk,if_true] at uS;simp only [zh,zO] at hx uS;subst Mr;have:=lA i (c+y.2) e y.1 x he uS (by rw [←hx];congr 1;omega);exact ⟨Jr this,V3 (BV fw)⟩
        ·cases hx
     ·cases h
   |_=>simp [cN] at h
 |ra k sz es i c b off cap cX hi=>
  simp only [oW] at h;cases he:es[i]? with
  |none=>simp [he] at h
  |some e=>
   simp only [he] at h;split at h
   ·rename_i hle;have h:=zT h;subst h;generalize F3:Value.slice (some ⟨b,off,none⟩) es.length cap=v0 at cX;cases cX with
    |emp=>simp at he
    |sl _ _ b' B1 V2 hc hl ew hs lA=>
     cases F3;have pF:=pA hl he;have FR:=cY he;have fU:∀q,q<n→∃x,w.cell? ⟨b,off+i*sz+(c+q),none⟩=some x:=fun q hq=>zt.1 (hs i (c+q) FR (by omega))
     refine ⟨b,off+i*sz+c,(List.range n).map fun q=>(w.cell? ⟨b,off+i*sz+(c+q),none⟩).getD undef,rfl,by simp,by simp;omega,fun k x hx=>?_,fun k av x fG hx=>?_⟩
     ·simp only [ze,zb] at hx;obtain ⟨y,hy,rfl⟩:=hx;have od:=cY hy;simp at od;rw [zq od] at hy;cases hy;obtain ⟨z,hz⟩:=fU k od;rw [hz];simpa [zW] using hz
     ·simp only [ze,zb] at hx fG;obtain ⟨y,hy,rfl⟩:=hx;obtain ⟨u,hu,rfl⟩:=fG;have od:=cY hy;simp at od;rw [zq od] at hy;cases hy;obtain ⟨z,hz⟩:=fU k od;rw [zd od] at hu;simp only [zh] at hu;rw [hz];exact ⟨Ge (lA i (c+k) e u z he hu hz),by simp [Live,Gf]⟩
   ·cases h
 |v k d x cX=>
  cases cX with
  |rp ds b cE hc hs lA=>
   simp only [oW] at h;split at h
   ·rename_i hle;have h:=zT h;subst h;have fU:∀q,q<n→∃x,w.cell? ⟨b,0+q,none⟩=some x:=fun q hq=>zt.1 (by rw [Nat.zero_add];exact hs q (by omega))
    refine ⟨b,0,(List.range n).map fun q=>(w.cell? ⟨b,0+q,none⟩).getD undef,rfl,by simp,by simp;omega,fun k x hx=>?_,fun k1 av x fG hx=>?_⟩
    ·simp only [ze,zb] at hx;obtain ⟨y,hy,rfl⟩:=hx;have od:=cY hy;simp at od;rw [zq od] at hy;cases hy;obtain ⟨z,hz⟩:=fU k od;rw [hz];rfl
    ·simp only [ze,zb] at hx fG;obtain ⟨y,hy,rfl⟩:=hx;obtain ⟨u,hu,rfl⟩:=fG;have od:=cY hy;simp at od;rw [zq od] at hy;cases hy;obtain ⟨z,hz⟩:=fU k1 od;rw [zd od] at hu;rw [hz];exact ⟨Ge (lA k1 u z hu (by simpa using hz)),by simp [Live,Gf]⟩
   ·cases h
  |_=>simp [oW] at h
 |_=>simp [oW] at h
theorem JI (R:Rel w0 cl0 S ts w g) {a:AV} {v:Value} (ha:RA w g S.ms a v) {sz:Nat} {es:List (List D)} (h:S.ms.jE a=some (sz,es)):
 ∃(b:Option Addr) (cap:Nat),v=.slice b es.length cap∧(∀e∈es,e.length=sz∨es=[])∧
  (es≠[]→∃b' o,b=some ⟨b',o,none⟩∧es.length≤cap∧(∀e∈es,e.length=sz)∧
   ∀(i c:Nat) (e:List D) (d:D),es[i]?=some e→e[c]?=some d→∃x,w.cell? ⟨b',o+i*sz+c,none⟩=some x∧
    ((∃k,RO w g.cl k d x)∨∃r j p,OW w g r j p d x)):=by
 cases ha with
 |v k d x cX=>
  cases cX with
  |emp s b cap=>simp [Ms.jE] at h;obtain ⟨rfl,rfl⟩:=h;exact ⟨b,cap,rfl,by simp,fun h=>absurd rfl h⟩
  |sl s WD b off cap hc hl ew hs lA=>
   simp [Ms.jE] at h;obtain ⟨rfl,rfl⟩:=h;refine ⟨_,cap,rfl,fun e he=>.inl (hl e he),fun _=>⟨b,off,rfl,ew,hl,fun i c e d he hd=>?_⟩⟩;obtain ⟨x,hx⟩:=zt.1 (hs i c (cY he) (by have:=pA hl he;have:=cY hd;omega));exact ⟨x,hx,.inl ⟨k,lA i c e d x he hd hx⟩⟩
  |_=>simp [Ms.jE] at h
 |nl s=>simp [Ms.jE] at h;obtain ⟨rfl,rfl⟩:=h;exact ⟨none,0,rfl,by simp,fun h=>absurd rfl h⟩
 |pl r j p b0 n0 c0 hx=>
  simp only [Ms.jE] at h;split at h
  ·rename_i s WD cN;simp at h;obtain ⟨rfl,rfl⟩:=h;obtain ⟨x0,ho⟩:=R.at cN;have hv:=hx (kP cN).1;have:=ho.nh;subst this;generalize hg:g.hd (r+1) j p=v0 at ho hv;rw [hv];cases ho with
   |nil=>exact ⟨none,0,rfl,by simp,fun h=>absurd rfl h⟩
   |sl _ _ _ b off cap vals E hh hc hl ew hw hN lA=>
    refine ⟨_,cap,rfl,fun e he=>.inl (hl e he),fun _=>⟨b,off,rfl,ew,hl,fun i c e d he hd=>?_⟩⟩;have ai:=vY (off:=off) (cY he) (by have:=pA hl he;have:=cY hd;omega:c<s) ew hN;exact ⟨vals[off+i*s+c],by rw [rL hw];simp [ai],.inr ⟨_,_,_,lA i c e d _ he hd (by simp [ai])⟩⟩
  ·cases h
 |rg r j p gH lo hi b0 n0 c0 hx=>
  simp only [Ms.jE] at h;split at h
  ·rename_i WD yy;simp at h;obtain ⟨rfl,rfl⟩:=h;obtain ⟨rQ,cN,hlo,tv,rfl⟩:=Fq yy;obtain ⟨x0,ho⟩:=R.at cN;have hv:=hx (kP cN).1;have:=ho.nh;subst this;generalize hg:g.hd (r+1) j p=v0 at ho hv;rw [hv];have hlen:((rQ.take hi).drop lo).length=hi-lo:=by simp;omega
   cases ho with
   |nil=>
    have:hi=0:=by simpa using tv
    subst this;obtain rfl:lo=0:=by omega
    exact ⟨none,0,by simp [nC],by simp,fun h=>by simp at h⟩
   |sl _ _ _ b off cap vals E hh hc hl ew hw hN lA=>
    refine ⟨_,cap-lo,by rw [hlen];rfl,fun e he=>.inl (hl e (zo (zx he))),fun cE=>?_⟩
    have aa4:lo<hi:=by
     rcases zH lo hi with h|h
     ·exact h
     ·exact absurd (zy (by omega)) cE
    have cE:cap≠lo:=by omega
    simp only [if_neg cE,zK,Addr.add_lit];refine ⟨b,off+lo*gH,rfl,by omega,fun e he=>hl e (zo (zx he)),fun i c e d he hd=>?_⟩;have hi2:=cY he;rw [hlen] at hi2
    have pE:rQ[lo+i]?=some e:=by
     simp only [zh] at he;rw [zd (by omega)] at he;exact he
    have ai:=vY (off:=off) (cY pE) (by have:=pA hl pE;have:=cY hd;omega:c<gH) ew hN;have heq:off+(lo+i)*gH+c=off+lo*gH+i*gH+c:=by rw [zw];omega
    rw [heq] at ai;exact ⟨vals[off+lo*gH+i*gH+c],by rw [rL hw];simp [ai],.inr ⟨_,_,_,lA (lo+i) c e d _ pE hd (by rw [heq];simp [ai])⟩⟩
  ·cases h
 |_=>simp [Ms.jE] at h
end
end
def CO:AV→Value→Bool
 |.v false (.int k n),.int k' n'=>decide (k=k')&&decide (n=n')
 |.v false (.bool b),.bool b'=>b==b'
 |.v false (.str s),.string s'=>decide (s.data=s'.data)
 |.nl _,.slice none n c=>n==0&&c==0
 |.un,_=>true
 |.cf [],.tuple vs=>vs.size==0
 |_,_=>false
def yi:List AV→List Value→Bool
 |[],[]=>true
 |a::as,v::vs=>CO a v&&yi as vs
 |_,_=>false
def eh:PX→Operand→Bool
 |.t n,.tmp m=>n==m
 |.c a,.const v=>CO a v
 |.c (.v false (.fn g [])),.func f=>f==mh g
 |_,_=>false
def yj:List PX→List Operand→Bool
 |[],[]=>true
 |a::as,v::vs=>eh a v&&yj as vs
 |_,_=>false
def Co (P:Program):Nat→List Field→List Nat→Bool
 |_,[],[]=>true
 |i,f::fs,k::ks=>f.name != "_"&&f.offset==i&&(match P.underlying f.type,k with
  |some (.int _),0=>true
  |some .bool,1=>true
  |some .string,2=>true
  |_,_=>false)&&Co P (i+1) fs ks
 |_,_,_=>false
def Ut (P:Program) (t:TypeId) (ks:List Nat):Bool:=
 !P.stoodInHeld t&&!P.eqGuardType P.depth t&&match P.underlying t with
 |some (.struct fs)=>Co P 0 fs.toList ks
 |_=>false
def E9 (P:Program) (t:TypeId):Option Bool:=
 match P.underlying t with
 |some (.struct _)=>some true
 |some (.array ..)=>some true
 |some _=>some false
 |none=>none
def l_ (P:Program) (t:TypeId):Option TypeId:=
 match P.underlying t with
 |some (.slice e)=>some e
 |_=>none
def vf (P:Program) (t:TypeId):Option (List Value):=
 match P.info? t with
 |some i=>match i.zero with
  |some z=>if z.cells.size=i.size then some z.cells.toList else none
  |none=>none
 |none=>none
def la (P:Program) (t:TypeId):Option (Nat×Nat):=
 match P.info? t with
 |some i=>some (i.size,i.bytes)
 |none=>none
def yq (P:Program) (t:TypeId) (f:Nat):Option (Nat×Nat):=
 match P.underlying t with
 |some (.struct fs)=>match fs[f]? with
  |some fd=>match P.info? fd.type with
   |some i=>some (fd.offset,i.size)
   |none=>none
  |none=>none
 |_=>none
def Ff:D→Value→Bool
 |.int k n,.int k' n'=>decide (k=k')&&decide (n=n')
 |.bool b,.bool b'=>b==b'
 |.str s,.string s'=>decide (s.data=s'.data)
 |.sl _ [],.slice none n c=>n==0&&c==0
 |_,_=>false
def wX:List D→List Value→Bool
 |[],[]=>true
 |a::as,v::vs=>Ff a v&&wX as vs
 |_,_=>false
def uF:Option PX→Option Operand→Bool
 |none,none=>true
 |some x,some o=>eh x o
 |_,_=>false
def By (at?:Nat→Option (Nat×Nat)):List (Nat×PX)→List (Nat×Operand)→Bool
 |[],[]=>true
 |(off,x)::l,(i,o)::l'=>(match at? i with|some (B1,_)=>off==B1|none=>false)&&eh x o&&By at? l l'
 |_,_=>false
def Bw (at?:Nat→Option (Nat×Nat)):List (Nat×Nat×PX)→List (Nat×Operand)→Bool
 |[],[]=>true
 |(off,n,x)::l,(i,o)::l'=>decide (at? i=some (off,n))&&eh x o&&Bw at? l l'
 |_,_=>false
def rep {α:Type} (n:Nat) (l:List α):List α:=(zM n l).flatten
def yg (P:Program) (f:FuncId):Bool:=
 match P.funcs[f]? with
 |some fn=>fn.body.isSome&&fn.name != "runtime.NumGoroutine"
 |none=>false
def cv (P:Program) (κ:Nat→FuncId) (o:bP) (op:Op):Bool:=
 match o,op with
 |.mv x,.move a=>eh x a
 |.mv x,.assign a=>eh x a
 |.pick c a b,.pick c' a' b'=>eh c c'&&eh a a'&&eh b b'
 |.bin op x y,.binOp AF _ a b _=>decide (op=AF)&&eh x a&&eh y b
 |.rP neg x y,.binOp AF t a b _=>decide (AF=if neg then .neq else .eql)&&eh x a&&eh y b&&(match P.underlying t with|some .bool=>true|_=>false)
 |.eqs neg ks x y,.binOp AF t a b _=>decide (AF=if neg then .neq else .eql)&&eh x a&&eh y b&&Ut P t ks
 |.un op x,.unOp AF _ a=>decide (op=AF)&&eh x a
 |.len x,.call c=>match c.callee,c.args.toList,c.argTypes.toList with
  |.builtin .len,[a],[t]=>eh x a&&(match P.underlying t with|some (.slice _)=>true|_=>false)
  |_,_,_=>false
 |.lens x,.call c=>match c.callee,c.args.toList,c.argTypes.toList with
  |.builtin .len,[a],[t]=>eh x a&&(match P.underlying t with|some .string=>true|_=>false)
  |_,_,_=>false
 |.box _ x,.box _ a=>eh x a
 |.alloc zs,.alloc t=>match vf P t with
  |some z=>yi zs z
  |none=>false
 |.build z ps,.build t parts=>(match vf P t with
  |some z'=>yi z z'
  |none=>false)&&Bw (yq P t) ps parts.toList&&(match P.underlying t with
   |some (.struct fs)=>fs.toList.all fun f=>(P.info? f.type).isSome
   |_=>false)
 |.bZ sz z n ps,.buildSlice t n' parts=>match l_ P t with
  |some e=>match vf P e with
   |some z'=>decide (n=n')&&decide (z'.length=sz)&&decide (n*sz≤2^24)&&wX z (rep n z')&&By (fun i=>some (i*sz,sz)) ps parts.toList
   |none=>false
  |none=>false
 |.lH sz bytes z x,.makeSlice t l c=>match l_ P t with
  |some e=>match vf P e,la P e with
   |some z',some (_,gl)=>decide (z'.length=sz)&&decide (gl=bytes)&&wX z z'&&eh x l&&eh x c&&decide (0<bytes)
   |_,_=>false
  |none=>false
 |.ld agg n x,.load t a=>match E9 P t,la P t with
  |some VC,some (n',_)=>agg==VC&&n==n'&&eh x a
  |_,_=>false
 |.st n x y,.store t a b=>match la P t with
  |some (n',_)=>n==n'&&eh x a&&eh y b
  |none=>false
 |.ah x off,.fieldAddr t a f=>match yq P t f with
  |some (B1,s)=>off==B1&&eh x a&&s !=0
  |none=>false
 |.cK sz x i,.indexAddr t a b=>match l_ P t with
  |some e=>match la P e with
   |some (s,_)=>s==sz&&eh x a&&eh i b
   |none=>false
  |none=>false
 |.iI sz x lo hi,.slice t a wg lz mx=>mx.isNone&&eh x a&&uF lo wg&&uF hi lz&&(match l_ P t with|some e=>(match la P e with|some (s,_)=>s==sz|none=>false)|none=>false)
 |.ext x k,.extract a k'=>eh x a&&k==k'
 |.call f _ args,.call c=>match c.callee with
  |.value (.func f')=>f'==κ f&&yj args c.args.toList&&(match P.funcs[f']? with
   |some fn=>fn.body.isSome&&fn.name != "runtime.NumGoroutine"
   |none=>false)
  |_=>false
 |.lj f i args,.call c=>match c.callee with
  |.value (.func f')=>f'==κ f&&yj args c.args.toList&&decide (i<args.length)&&(match P.funcs[f']? with
   |some fn=>fn.body.isSome&&fn.name != "runtime.NumGoroutine"
   |none=>false)
  |_=>false
 |.sV sz z x,.call c=>match c.callee,c.args.toList,c.argTypes.toList with
  |.builtin .clear,[a],[t]=>eh x a&&(match l_ P t with
   |some e=>(match vf P e,la P e with
    |some zv,some (s,_)=>s==sz&&wX z zv
    |_,_=>false)
   |none=>false)
  |_,_,_=>false
 |.app sz bytes x y,.call c=>match c.callee,c.args.toList,c.argTypes.toList with
  |.builtin .append,[a,b],[t,u]=>eh x a&&eh y b&&(match l_ P t,l_ P u with
   |some e,some e'=>e==e'&&(match vf P e,la P e with
    |some z,some (s,gl)=>s==sz&&gl==bytes&&z.length==sz&&s !=0&&(bytes !=0)
    |_,_=>false)
   |_,_=>false)
  |_,_,_=>false
 |.apps x y,.call c=>match c.callee,c.args.toList,c.argTypes.toList with
  |.builtin .append,[a,b],[t,u]=>eh x a&&eh y b&&(match l_ P t,P.underlying u with
   |some e,some .string=>(match vf P e,la P e with
    |some z,some (s,gl)=>s==1&&gl==1&&z.length==1
    |_,_=>false)
   |_,_=>false)
  |_,_,_=>false
 |.p_ sz bytes x y,.call c=>match c.callee,c.args.toList,c.argTypes.toList with
  |.builtin .append,[a,b],[t,u]=>eh x a&&eh y b&&(match l_ P t,l_ P u with
   |some e,some e'=>e==e'&&(match vf P e,la P e with
    |some z,some (s,gl)=>s==sz&&gl==bytes&&z.length==sz&&s !=0&&(bytes !=0)
    |_,_=>false)
   |_,_=>false)
  |_,_,_=>false
 |.gn k x,.convert s t a=>eh x a&&(match P.underlying s,P.underlying t with
  |some _,some (.int k')=>decide (k=k')
  |_,_=>false)
 |.qg x,.convert s t a=>eh x a&&(match P.underlying s,P.underlying t with
  |some (.slice e),some .string=>(match P.underlying e with|some (.int .u8)=>true|_=>false)
  |_,_=>false)
 |.idx x i,.index t a b=>eh x a&&eh i b&&(match P.underlying t with|some .string=>true|_=>false)
 |.mn x y,.call c=>match c.callee,c.args.toList with
  |.builtin .min,[a,b]=>eh x a&&eh y b
  |_,_=>false
 |.mx x y,.call c=>match c.callee,c.args.toList with
  |.builtin .max,[a,b]=>eh x a&&eh y b
  |_,_=>false
 |_,_=>false
section
section
variable {P:Program} {κ:Nat→FuncId} {w0:World} {cl0:fS} {S:St} {w:World} {g:Gh} {a:Act} {Γ:Env} {d:Nat}
theorem Jt {v:AV} {x:Value} {m:Ms} (h:CO v x=true):RA w g m v x∧v.refs=[]:=by
 unfold CO at h;split at h
 ·simp at h;obtain ⟨rfl,rfl⟩:=h;exact ⟨.v _ _ _ (.int _ _),rfl⟩
 ·simp at h;subst h;exact ⟨.v _ _ _ (.bool _),rfl⟩
 ·rename_i s s';simp at h;obtain rfl:s=s':=ByteArray.ext h;exact ⟨.v _ _ _ (.str _),rfl⟩
 ·simp at h;obtain ⟨rfl,rfl⟩:=h;exact ⟨.nl _,rfl⟩
 ·exact ⟨.un _,rfl⟩
 ·simp at h;subst h;exact ⟨.cf _ _ (by simp) (fun i a x h=>by simp at h),by simp [AV.refs,AV.ea]⟩
 ·cases h
theorem en (R:Rel w0 cl0 S a.tmps w g) {x:PX} {o:Operand} (h:eh x o=true):RA w g S.ms (S.ev x) (a.eval o)∧Live S.ms (S.ev x):=by
 unfold eh at h;split at h
 ·simp at h;subst h;exact ⟨R.av _,fun r hr=>R.kI _ r hr⟩
 ·have:=Jt (w:=w) (g:=g) (m:=S.ms) h;exact ⟨this.1,fun r hr=>by simp [St.ev,this.2] at hr⟩
 ·simp at h;subst h;exact ⟨.v _ _ _ (.fn _),fun r hr=>by simp [St.ev,AV.refs] at hr⟩
 ·cases h
theorem tZ {m:Ms} {k:Bool} {kd:IntKind} {n:Int} {x:Value} (h:RA w g m (.v k (.int kd n)) x):x=.int kd n:=by
 cases h with|v _ _ _ h=>cases h;rfl
theorem EI {m:Ms} {k b:Bool} {x:Value} (h:RA w g m (.v k (.bool b)) x):x=.bool b:=by
 cases h with|v _ _ _ h=>cases h;rfl
theorem Cs {m:Ms} {k:Bool} {s:ByteArray} {x:Value} (h:RA w g m (.v k (.str s)) x):x=.string s:=by
 cases h with|v _ _ _ h=>cases h;rfl
theorem Bs {m:Ms} {v:AV} {n:Int} {x:Value} (ha:RA w g m v x) (h:v.asInt=some n):∃k,x=.int k n:=by
 unfold AV.asInt at h;split at h
 ·simp at h;subst h;exact ⟨_,tZ ha⟩
 ·cases h
theorem E_ {m:Ms} {v:AV} {b:Bool} {x:Value} (ha:RA w g m v x) (h:v.asBool=some b):x=.bool b:=by
 unfold AV.asBool at h;split at h
 ·simp at h;subst h;exact EI ha
 ·cases h
def adF (P:Program) (w:World) (g:Gh) (m:Ms) (av:AV) (s:Sem Next):Prop:=
 ∃v,s.run P w=.ok (.value v) w∧RA w g m av v∧Live m av
theorem pP {m:Ms} {k:Bool} {x:D}:Live m (.v k x):=fun r hr=>by simp [AV.refs] at hr
theorem aix {op:BinOp} {k k':IntKind} {x y:Int} {r:D} (h:vk op (.int k x) (.int k' y)=some r) (t:TypeId):
 ∃v,(zk op t (.int k x) (.int k' y)).run P w=.ok v w∧RO w g.cl false r v:=by
 simp only [vk] at h;cases op
 case shl|shr=>
  simp at h;obtain ⟨h0,rfl⟩:=h;simp only [zk,Op.shift];rw [if_neg (by omega)];exact ⟨_,rfl,.int _ _⟩
 case andNot=>simp at h
 case quo|rem=>
  by_cases hk:k=k'
  ·subst hk;simp at h;obtain ⟨h0,rfl⟩:=h;simp only [zk,Op.intDiv,ne_eq,not_true,if_false,if_neg h0];exact ⟨_,rfl,.int _ _⟩
  ·simp [hk] at h
 case add|sub|mul=>
  by_cases hk:k=k'
  ·subst hk;simp at h;subst h;simp only [zk,Op.intArith,ne_eq,not_true,if_false];exact ⟨_,rfl,.int _ _⟩
  ·simp [hk] at h
 case and|or|xor=>
  by_cases hk:k=k'
  ·subst hk;simp only [if_true,zF] at h;subst h;simp only [zk,Op.intBits,ne_eq,not_true,if_false];exact ⟨_,rfl,.int _ _⟩
  ·simp [hk] at h
 all_goals
  by_cases hk:k=k'
  ·subst hk;simp only [if_true,zF] at h;subst h;simp only [zk,Op.intCmp,ne_eq,not_true,if_false];exact ⟨_,rfl,.bool _⟩
  ·simp [hk] at h
theorem alT {op:BinOp} {x y:ByteArray} {r:D} (h:vk op (.str x) (.str y)=some r) (t:TypeId):
 ∃v,(zk op t (.string x) (.string y)).run P w=.ok v w∧RO w g.cl false r v:=by
 simp only [vk] at h;cases op
 case add=>
  by_cases hc:((x.size+y.size:Nat):Int)>IntKind.i64.max
  ·rw [if_pos hc] at h;cases h
  ·rw [if_neg hc] at h;cases h;simp only [zk,Op.stringOp];rw [if_neg hc];exact ⟨_,rfl,.str _⟩
 case eql|neq|lss|leq|gtr|geq=>
  simp only [zF] at h;subst h;simp only [zk,Op.stringOp];exact ⟨_,rfl,.bool _⟩
 all_goals cases h
theorem ak' {x y:Bool} {t:TypeId} (ht:P.underlying t=some .bool) (n:Nat):(Op.equalIn (n+1) t (.bool x) (.bool y)).run P w=.ok (x==y) w:=by
 simp [Op.equalIn,run_underlying ht]
theorem ak_ {m:Ms}:∀(ks:List Nat) (fs:List Field) (i d:Nat) (xs ys:List AV) (vx vy:Array Value) (r:Bool),
 Co P i fs ks=true→vC ks xs ys=some r→
 (∀(q:Nat) (a:AV),xs[q]?=some a→∃x,vx[i+q]?=some x∧RA w g m a x)→(∀(q:Nat) (a:AV),ys[q]?=some a→∃x,vy[i+q]?=some x∧RA w g m a x)→
 (Op.eqFields (d+1) vx vy fs).run P w=.ok r w:=by
 intro ks;induction ks with
 |nil=>
  intro fs i d xs ys vx vy r hp he hx hy;cases fs with
  |nil=>
   cases xs<;>cases ys<;>simp [vC] at he;subst he;simp [Op.eqFields]
  |cons=>simp [Co] at hp
 |cons k ks ih=>
  intro fs i d xs ys vx vy r hp he hx hy;cases fs with
  |nil=>simp [Co] at hp
  |cons f fs=>
   simp only [Co,za,bne_iff_ne,ne_eq,beq_iff_eq] at hp;obtain ⟨⟨⟨hn,ho⟩,hk⟩,LN⟩:=hp
   have mK:∀a va,xs=a::va→∀(q:Nat) (a:AV),va[q]?=some a→∃x,vx[i+1+q]?=some x∧RA w g m a x:=by
    intro a va e q b hb;subst e;have:=hx (q+1) b (by simpa using hb);rwa [show i+(q+1)=i+1+q from by omega] at this
   have Mq:∀a va,ys=a::va→∀(q:Nat) (a:AV),va[q]?=some a→∃x,vy[i+1+q]?=some x∧RA w g m a x:=by
    intro a va e q b hb;subst e;have:=hy (q+1) b (by simpa using hb);rwa [show i+(q+1)=i+1+q from by omega] at this
   have key:∀(u v:Value) (b r':Bool),vx[i]?=some u→vy[i]?=some v→(isAgg f.type).run P w=.ok false w→
    (Op.equalIn (d+1) f.type u v).run P w=.ok b w→(Op.eqFields (d+1) vx vy fs).run P w=.ok r' w→
    (Op.eqFields (d+1) vx vy (f::fs)).run P w=.ok (b&&r') w:=by
    intro u v b r' h1 h2 h3 h4 h5;simp only [Op.eqFields,hn,ne_eq,not_false_eq_true,if_true,Sem.run_bind,part,h3,Result.andThen_ok,zB,if_false,ho,h1,h2,Sem.run_pure,h4];cases b<;>simp [h5]
   unfold vC at he;split at he
   ·rename_i h;cases h
   ·rename_i h;cases h;split at he
    ·rename_i BK;split at he
     ·rename_i r' Dt;cases he;subst BK;obtain ⟨u,lD,nY⟩:=hx 0 _ rfl;obtain ⟨v,kG,fO⟩:=hy 0 _ rfl;rw [tZ nY] at lD;rw [tZ fO] at kG;cases qA:P.underlying f.type with
      |none=>simp [qA] at hk
      |some t=>
       cases t<;>simp [qA] at hk;exact key _ _ _ _ lD kG (by simp [isAgg,run_underlying qA]) (run_equalIn_int w d f.type _ _ _ _ qA) (ih fs (i+1) d _ _ vx vy r' LN Dt (mK _ _ rfl) (Mq _ _ rfl))
     ·cases he
    ·cases he
   ·rename_i h;cases h;split at he
    ·rename_i r' Dt;cases he;obtain ⟨u,lD,nY⟩:=hx 0 _ rfl;obtain ⟨v,kG,fO⟩:=hy 0 _ rfl;rw [EI nY] at lD;rw [EI fO] at kG;cases qA:P.underlying f.type with
     |none=>simp [qA] at hk
     |some t=>
      cases t<;>simp [qA] at hk;exact key _ _ _ _ lD kG (by simp [isAgg,run_underlying qA]) (run_equalIn_bool' w d f.type _ _ qA) (ih fs (i+1) d _ _ vx vy r' LN Dt (mK _ _ rfl) (Mq _ _ rfl))
    ·cases he
   ·rename_i h;cases h;split at he
    ·rename_i r' Dt;cases he;obtain ⟨u,lD,nY⟩:=hx 0 _ rfl;obtain ⟨v,kG,fO⟩:=hy 0 _ rfl;rw [Cs nY] at lD;rw [Cs fO] at kG;cases qA:P.underlying f.type with
     |none=>simp [qA] at hk
     |some t=>
      cases t<;>simp [qA] at hk;exact key _ _ _ _ lD kG (by simp [isAgg,run_underlying qA]) (run_equalIn_string w d f.type _ _ qA) (ih fs (i+1) d _ _ vx vy r' LN Dt (mK _ _ rfl) (Mq _ _ rfl))
    ·cases he
   ·cases he
theorem ala {t:TypeId} {ks:List Nat} (ht:Ut P t ks=true) {xs ys:List AV} {u v:Value} {m:Ms} {r:Bool}
 (h:vC ks xs ys=some r) (hx:RA w g m (.agg xs) u) (hy:RA w g m (.agg ys) v) {op:BinOp} {neg:Bool} (jY:op=if neg then .neq else .eql) (x y:Operand):
 (do eqGuard op t x y u v;zk op t u v:Sem Value).run P w=.ok (.bool (if neg then !r else r)) w:=by
 simp only [Ut,za,Bool.not_eq_true'] at ht;obtain ⟨⟨h1,h2⟩,h3⟩:=ht;cases hu:P.underlying t with
 |none=>simp [hu] at h3
 |some d=>
  cases d with
  |struct fs=>
   simp only [hu] at h3;have hf:P.underlying t=some (.struct (P.fieldsOf t)):=by simp [Program.fieldsOf,hu]
   have hff:P.fieldsOf t=fs:=by simp [Program.fieldsOf,hu]
   cases hx with
   |agg _ vx BL hxx=>
    cases hy with
    |agg _ vy hly hyy=>
     have he:(Op.equalIn 10000 t (.agg vx) (.agg vy)).run P w=.ok r w:=by
      rw [run_equalIn_agg w 9999 t vx vy hf h1,hff];refine ak_ (g:=g) (m:=m) ks fs.toList 0 9998 xs ys vx vy r h3 h (fun q a ha=>?_) (fun q a ha=>?_)
      ·have hq:=cY ha;refine ⟨vx[q],by simp [show q<vx.size from by omega],hxx q a _ ha (by simp [show q<vx.size from by omega])⟩
      ·have hq:=cY ha;refine ⟨vy[q],by simp [show q<vy.size from by omega],hyy q a _ ha (by simp [show q<vy.size from by omega])⟩
     subst jY;simp only [Sem.run_bind,run_eqGuard_agg w _ t x y vx vy h2,Result.andThen_ok];cases neg
     ·simp only [zB,if_false,run_eql_struct w t vx vy,he,Result.andThen_ok]
     ·simp only [if_true,run_neq_struct w t vx vy,he,Result.andThen_ok]
  |_=>simp [hu] at h3
theorem ai5 {t e:TypeId} {ty:TypeId} {b:Option Addr} {n c:Nat} (ht:P.underlying t=some (.slice e)):
 (Builtin.len_ #[t] ty #[.slice b n c]).run P w=.ok (.int .i64 n) w:=by
 simp [Builtin.len_,run_underlying ht,goInt]
theorem ai6 {t:TypeId} {ty:TypeId} {s:ByteArray} (ht:P.underlying t=some .string):
 (Builtin.len_ #[t] ty #[.string s]).run P w=.ok (.int .i64 s.size) w:=by
 simp [Builtin.len_,run_underlying ht,goInt]
end
end
section
section
variable {P:Program} {κ:Nat→FuncId} {w0:World} {cl0:fS} {S:St} {w:World} {g:Gh} {a:Act} {Γ:Env} {d:Nat}
def lW (P:Program) (S:St) (w:World) (g:Gh) (a:Act) (av:AV) (rt:Option Rt) (m':Ms) (op:Op):Prop:=
 rt=none∧m'=S.ms∧∀o:Oper,o.op=op→adF P w g S.ms av (execOp a.eval o)
theorem aj' (R:Rel w0 cl0 S a.tmps w g) {x:PX} {op:Op} {av:AV} {rt:Option Rt} {m':Ms} (hc:cv P κ (.mv x) op=true)
 (h:bh Γ S.ev d S.ms (.mv x)=some (av,rt,m')):lW P S w g a av rt m' op:=by
 simp [bh] at h;obtain ⟨rfl,rfl,rfl⟩:=h;refine ⟨rfl,rfl,fun o ho=>?_⟩;cases op<;>simp [cv] at hc
 all_goals
  have:=en R hc;exact ⟨_,by simp [execOp,ho],this.1,this.2⟩
theorem akc (R:Rel w0 cl0 S a.tmps w g) {c x y:PX} {op:Op} {av:AV} {rt:Option Rt} {m':Ms} (hc:cv P κ (.pick c x y) op=true)
 (h:bh Γ S.ev d S.ms (.pick c x y)=some (av,rt,m')):lW P S w g a av rt m' op:=by
 simp only [bh] at h;split at h
 ·rename_i t ht;simp at h;obtain ⟨rfl,rfl,rfl⟩:=h;refine ⟨rfl,rfl,fun o ho=>?_⟩;cases op<;>simp [cv] at hc;obtain ⟨⟨h1,h2⟩,h3⟩:=hc;have e1:=E_ (en R h1).1 ht;have e2:=en R h2;have e3:=en R h3;cases t
  ·exact ⟨_,by simp [execOp,ho,e1,asBool],e3.1,e3.2⟩
  ·exact ⟨_,by simp [execOp,ho,e1,asBool],e2.1,e2.2⟩
 ·cases h
theorem ajR (R:Rel w0 cl0 S a.tmps w g) {Fa:BinOp} {x y:PX} {op:Op} {av:AV} {rt:Option Rt} {m':Ms} (hc:cv P κ (.bin Fa x y) op=true)
 (h:bh Γ S.ev d S.ms (.bin Fa x y)=some (av,rt,m')):lW P S w g a av rt m' op:=by
 simp only [bh] at h;split at h
 ·rename_i k1 d1 k2 d2 hx hy;split at h
  ·rename_i r hr;simp at h;obtain ⟨rfl,rfl,rfl⟩:=h;refine ⟨rfl,rfl,fun o ho=>?_⟩;cases op with
   |binOp aox t ox oy ty=>?_
   |_=>simp [cv] at hc
   simp [cv] at hc;obtain ⟨⟨rfl,h2⟩,h3⟩:=hc;have e2:=(en R h2).1;have e3:=(en R h3).1;rw [hx] at e2;rw [hy] at e3;cases d1 with
   |int=>
    cases d2 with
    |int=>
     obtain ⟨v,h5,h6⟩:=aix (P:=P) (w:=w) (g:=g) hr t;exact ⟨v,by simp [execOp,ho,tZ e2,tZ e3,eqGuard_at_int,h5],.v _ _ _ h6,pP⟩
    |_=>simp [vk] at hr
   |str=>
    cases d2 with
    |str=>
     obtain ⟨v,h5,h6⟩:=alT (P:=P) (w:=w) (g:=g) hr t;exact ⟨v,by simp [execOp,ho,Cs e2,Cs e3,eqGuard_at_string,h5],.v _ _ _ h6,pP⟩
    |_=>simp [vk] at hr
   |_=>simp [vk] at hr
  ·cases h
 ·cases h
theorem aj1 (R:Rel w0 cl0 S a.tmps w g) {neg:Bool} {ks:List Nat} {x y:PX} {op:Op} {av:AV} {rt:Option Rt} {m':Ms}
 (hc:cv P κ (.eqs neg ks x y) op=true) (h:bh Γ S.ev d S.ms (.eqs neg ks x y)=some (av,rt,m')):lW P S w g a av rt m' op:=by
 simp only [bh] at h;split at h
 ·rename_i xs ys hx hy;split at h
  ·rename_i r hr;simp at h;obtain ⟨rfl,rfl,rfl⟩:=h;refine ⟨rfl,rfl,fun o ho=>?_⟩;cases op<;>simp [cv] at hc;obtain ⟨⟨⟨h1,h2⟩,h3⟩,h4⟩:=hc;have e2:=(en R h2).1;have e3:=(en R h3).1;rw [hx] at e2;rw [hy] at e3;rename_i Fa t ox oy ty;have:=ala h4 hr e2 e3 (by simpa using h1) ox oy;simp only [Sem.run_bind] at this;exact ⟨_,by simp only [execOp,ho,Sem.run_bind,this,Result.andThen_ok,Sem.run_pure],.v _ _ _ (.bool _),pP⟩
  ·cases h
 ·cases h
theorem aj0 (R:Rel w0 cl0 S a.tmps w g) {neg:Bool} {x y:PX} {op:Op} {av:AV} {rt:Option Rt} {m':Ms}
 (hc:cv P κ (.rP neg x y) op=true) (h:bh Γ S.ev d S.ms (.rP neg x y)=some (av,rt,m')):lW P S w g a av rt m' op:=by
 simp only [bh] at h;split at h
 ·rename_i b1 b2 hx hy;simp at h;obtain ⟨rfl,rfl,rfl⟩:=h;refine ⟨rfl,rfl,fun o ho=>?_⟩;cases op<;>simp [cv] at hc;obtain ⟨⟨⟨h1,h2⟩,h3⟩,h4⟩:=hc;have e2:=E_ (en R h2).1 hx;have e3:=E_ (en R h3).1 hy;rename_i Fa t ox oy ty
  have hu:P.underlying t=some .bool:=by
   cases hu:P.underlying t with
   |none=>simp [hu] at h4
   |some u=>cases u<;>simp [hu] at h4 ⊢
  have he:(Op.equal t (.bool b1) (.bool b2)).run P w=.ok (b1==b2) w:=ak' hu 9999;subst h1;cases neg
  ·exact ⟨_,by simp [execOp,ho,e2,e3,eqGuard_at_bool,zk,he],.v _ _ _ (.bool _),pP⟩
  ·exact ⟨_,by simp [execOp,ho,e2,e3,eqGuard_at_bool,zk,he],.v _ _ _ (.bool _),pP⟩
 ·cases h
theorem akf (R:Rel w0 cl0 S a.tmps w g) {IG:UnOp} {x:PX} {op:Op} {av:AV} {rt:Option Rt} {m':Ms}
 (hc:cv P κ (.un IG x) op=true) (h:bh Γ S.ev d S.ms (.un IG x)=some (av,rt,m')):lW P S w g a av rt m' op:=by
 simp only [bh] at h;split at h
 ·rename_i k d1 hx;split at h
  ·rename_i r hr;simp at h;obtain ⟨rfl,rfl,rfl⟩:=h;refine ⟨rfl,rfl,fun o ho=>?_⟩;cases op<;>simp [cv] at hc;obtain ⟨rfl,h2⟩:=hc;have e2:=(en R h2).1;rw [hx] at e2;cases d1 with
   |int=>
    cases IG<;>simp [ER] at hr;subst hr;exact ⟨_,by simp [execOp,ho,tZ e2,Op.unary,Op.intArith],.v _ _ _ (.int _ _),pP⟩
   |bool=>
    cases IG<;>simp [ER] at hr;subst hr;exact ⟨_,by simp [execOp,ho,EI e2,Op.unary],.v _ _ _ (.bool _),pP⟩
   |_=>simp [ER] at hr
  ·cases h
 ·cases h
theorem yh {b:Builtin} {args:List Operand} {tys:List TypeId} {c:Call} (h1:c.callee=.builtin b) (h2:c.args.toList=args) (h3:c.argTypes.toList=tys)
 {o:Oper} (ho:o.op=.call c):∃cs,execOp a.eval o=builtin b tys.toArray o.type cs (args.map a.eval).toArray:=by
 obtain ⟨cal,ar,VM⟩:=c;obtain ⟨ar⟩:=ar;obtain ⟨VM⟩:=VM;simp only at h1 h2 h3;subst h1 h2 h3;refine ⟨(ar.toArray.map fun|.const _=>true|_=>false),?_⟩;simp only [execOp,ho,resolve,pure_bind,invoke,List.map_toArray];rfl
theorem aj7 (R:Rel w0 cl0 S a.tmps w g) {x:PX} {op:Op} {av:AV} {rt:Option Rt} {m':Ms}
 (hc:cv P κ (.len x) op=true) (h:bh Γ S.ev d S.ms (.len x)=some (av,rt,m')):lW P S w g a av rt m' op:=by
 cases op with
 |call c=>?_
 |_=>simp [cv] at hc
 simp only [cv] at hc;split at hc
 ·rename_i a1 t1 qV lu vV;simp only [za] at hc;obtain ⟨h1,h2⟩:=hc;have e1:=(en R h1).1;simp only [bh] at h;split at h
  ·rename_i sz es uJ;simp at h;obtain ⟨rfl,rfl,rfl⟩:=h;refine ⟨rfl,rfl,fun o ho=>?_⟩;obtain ⟨cs,hx⟩:=yh qV lu vV ho;obtain ⟨b,cap,hv,_⟩:=JI R e1 uJ;cases hu:P.underlying t1 with
   |none=>simp [hu] at h2
   |some u=>
    cases u<;>simp [hu] at h2;rw [hx];refine ⟨_,?_,.v _ _ _ (.int _ _),pP⟩;simp [builtin,hv,ai5 hu]
  ·cases h
 ·cases hc
theorem aj8 (R:Rel w0 cl0 S a.tmps w g) {x:PX} {op:Op} {av:AV} {rt:Option Rt} {m':Ms}
 (hc:cv P κ (.lens x) op=true) (h:bh Γ S.ev d S.ms (.lens x)=some (av,rt,m')):lW P S w g a av rt m' op:=by
 cases op with
 |call c=>?_
 |_=>simp [cv] at hc
 simp only [cv] at hc;split at hc
 ·rename_i a1 t1 qV lu vV;simp only [za] at hc;obtain ⟨h1,h2⟩:=hc;have e1:=(en R h1).1;simp only [bh] at h;split at h
  ·rename_i k s uJ;simp at h;obtain ⟨rfl,rfl,rfl⟩:=h;refine ⟨rfl,rfl,fun o ho=>?_⟩;obtain ⟨cs,hx⟩:=yh qV lu vV ho;rw [uJ] at e1;cases hu:P.underlying t1 with
   |none=>simp [hu] at h2
   |some u=>
    cases u<;>simp [hu] at h2;rw [hx];refine ⟨_,?_,.v _ _ _ (.int _ _),pP⟩;simp [builtin,Cs e1,ai6 hu]
  ·cases h
 ·cases hc
theorem aj6 (R:Rel w0 cl0 S a.tmps w g) {agg:Bool} {n:Nat} {x:PX} {op:Op} {av:AV} {rt:Option Rt} {m':Ms}
 (hc:cv P κ (.ld agg n x) op=true) (h:bh Γ S.ev d S.ms (.ld agg n x)=some (av,rt,m')):lW P S w g a av rt m' op:=by
 cases op with
 |load t ox=>?_
 |_=>simp [cv] at hc
 simp only [cv] at hc;split at hc
 ·rename_i VC n' gl ha hs;simp only [za,beq_iff_eq] at hc;obtain ⟨⟨rfl,rfl⟩,h1⟩:=hc;have e1:=(en R h1).1;simp only [bh] at h;split at h
  ·rename_i l hl;obtain ⟨b,off,xs,hv,iF,BD,fU,eA⟩:=abx R e1 hl
   have dM:∀w1,(sizeOf t).run P w1=.ok n w1:=by
    intro w1;unfold la at hs;split at hs
    ·rename_i i hi;simp at hs;simp [sizeOf,typeInfo,hi,hs.1]
    ·cases hs
   unfold E9 at ha;cases agg
   ·have pC:(isAgg t).run P w=.ok false w:=by
     cases hu:P.underlying t with
     |none=>simp [hu] at ha
     |some u=>cases u<;>simp [hu] at ha<;>simp [isAgg,run_underlying hu]
    simp only [zB,if_false] at h;split at h
    ·rename_i a1;simp at h;obtain ⟨rfl,rfl,rfl⟩:=h;refine ⟨rfl,rfl,fun o ho=>?_⟩;simp at BD;subst BD
     obtain ⟨x1,rfl⟩:∃x1,xs=[x1]:=by
      match xs,iF with
      |[x1],_=>exact ⟨x1,rfl⟩
     have h3:=eA 0 a1 x1 rfl rfl;have h4:=fU 0 x1 rfl;exact ⟨x1,by simp [execOp,ho,Instr.loadAt,hv,Instr.sureAddr,loadVar,pC,show w.cell? ⟨b,off,none⟩=some x1 from h4],h3.1,h3.2⟩
    ·cases h
   ·have pC:(isAgg t).run P w=.ok true w:=by
     cases hu:P.underlying t with
     |none=>simp [hu] at ha
     |some u=>cases u<;>simp [hu] at ha<;>simp [isAgg,run_underlying hu]
    simp at h;obtain ⟨rfl,rfl,rfl⟩:=h;refine ⟨rfl,rfl,fun o ho=>?_⟩;have hld:=DN P iF fU;refine ⟨.agg xs.toArray,by simp [execOp,ho,Instr.loadAt,hv,Instr.sureAddr,loadVar,pC,dM w,hld],.agg _ _ (by simp;omega) (fun i av x h1 h2=>(eA i av x h1 (by simpa using h2)).1),?_⟩;intro r hr;simp only [AV.refs] at hr
    have:∀(l:List AV),(∀(k:Nat) av,l[k]?=some av→Live S.ms av)→r∈AV.ea l→((S.ms r).1).isSome:=by
     intro l;induction l with
     |nil=>intro _ h;simp [AV.ea] at h
     |cons b bs ih=>
      intro h1 h2;simp only [AV.ea,zS] at h2;rcases h2 with h2|h2
      ·exact h1 0 b rfl r h2
      ·exact ih (fun k av hk=>h1 (k+1) av hk) h2
    refine this l (fun k av hk=>?_) hr;have ai:=cY hk;exact (eA k av xs[k] hk (by simp [show k<xs.length from by omega])).2
  ·cases h
 ·cases hc
end
end
section
section
variable {P:Program} {κ:Nat→FuncId} {w0:World} {cl0:fS} {S:St} {w:World} {g:Gh} {a:Act} {Γ:Env} {d:Nat}
theorem UE {t:TypeId} {f off s:Nat} (hf:yq P t f=some (off,s)) (hs:s≠0) (b o:Nat):
 (Instr.fieldAt t (.pointer (some ⟨b,o,none⟩)) f).run P w=.ok (.pointer (some ⟨b,o+off,none⟩)) w:=by
 unfold yq at hf;split at hf
 ·rename_i fs hu;split at hf
  ·rename_i fd yB;split at hf
   ·rename_i i hi;simp at hf;obtain ⟨rfl,rfl⟩:=hf;simp [Instr.fieldAt,run_underlying hu,yB,Instr.sureAddr,fieldPlace,sizeOf,typeInfo,hi,hs,Addr.add_lit]
   ·cases hf
  ·cases hf
 ·cases hf
theorem aj3 (R:Rel w0 cl0 S a.tmps w g) {x:PX} {off:Nat} {op:Op} {av:AV} {rt:Option Rt} {m':Ms}
 (hc:cv P κ (.ah x off) op=true) (h:bh Γ S.ev d S.ms (.ah x off)=some (av,rt,m')):lW P S w g a av rt m' op:=by
 cases op with
 |fieldAddr t ox f=>?_
 |_=>simp [cv] at hc
 simp only [cv] at hc;split at hc
 ·rename_i B1 s hf;simp only [za,beq_iff_eq,bne_iff_ne,ne_eq] at hc;obtain ⟨⟨rfl,hc⟩,hs⟩:=hc;have e1:=en R hc;simp only [bh] at h;split at h
  ·rename_i r j hx;simp at h;obtain ⟨rfl,rfl,rfl⟩:=h;refine ⟨rfl,rfl,fun o ho=>?_⟩;rw [hx] at e1;obtain ⟨h1,h2⟩:=e1;generalize hv:a.eval ox=v at h1;cases h1 with
   |bx=>exact ⟨_,by simp [execOp,ho,hv,UE hf hs],.bx _ _,h2⟩
  ·rename_i r j p sz i c hx;simp at h;obtain ⟨rfl,rfl,rfl⟩:=h;refine ⟨rfl,rfl,fun o ho=>?_⟩;rw [hx] at e1;obtain ⟨h1,h2⟩:=e1;generalize hv:a.eval ox=v at h1;cases h1 with
   |ad _ _ _ _ _ _ b o1 hh=>
    refine ⟨_,by simp [execOp,ho,hv,UE hf hs],.ad _ _ _ _ _ _ b (o1+off) fun hk=>?_,h2⟩;have:=hh hk;unfold yf at this ⊢;split at this
    ·simp at this;simp [this];omega
    ·cases this
  ·rename_i k sz es i c hx;simp at h;obtain ⟨rfl,rfl,rfl⟩:=h;refine ⟨rfl,rfl,fun o ho=>?_⟩;rw [hx] at e1;obtain ⟨h1,h2⟩:=e1;generalize hv:a.eval ox=v at h1;cases h1 with
   |ra _ _ _ _ _ b abL cap cX hi=>
    exact ⟨_,by simp only [execOp,ho,hv,Sem.run_bind,UE hf hs,Result.andThen_ok,Sem.run_pure];rw [zW],.ra _ _ _ _ _ b abL cap cX hi,h2⟩
  ·cases h
 ·cases hc
theorem UF {t e:TypeId} {s gl:Nat} (ht:l_ P t=some e) (hs:la P e=some (s,gl)) {k:IntKind} {n:Int} {b o len cap:Nat}
 (h0:0≤n) (h1:n<len):(Instr.indexAt t (.slice (some ⟨b,o,none⟩) len cap) (.int k n)).run P w=.ok (.pointer (some ⟨b,o+n.toNat*s,none⟩)) w:=by
 unfold l_ at ht;split at ht
 ·rename_i e' hu;simp at ht;subst ht;unfold la at hs;split at hs
  ·rename_i i hi;simp at hs;obtain ⟨rfl,rfl⟩:=hs;simp [Instr.indexAt,asIntOf,run_underlying hu,h0,h1,sizeOf,typeInfo,hi,Addr.add_lit]
  ·cases hs
 ·cases ht
theorem aj4 (R:Rel w0 cl0 S a.tmps w g) {sz:Nat} {x i:PX} {op:Op} {av:AV} {rt:Option Rt} {m':Ms}
 (hc:cv P κ (.cK sz x i) op=true) (h:bh Γ S.ev d S.ms (.cK sz x i)=some (av,rt,m')):lW P S w g a av rt m' op:=by
 cases op with
 |indexAddr t ox oi=>?_
 |_=>simp [cv] at hc
 simp only [cv] at hc;split at hc
 ·rename_i e he;split at hc
  ·rename_i s gl hs;simp only [za,beq_iff_eq] at hc;obtain ⟨⟨rfl,vG⟩,BF⟩:=hc;have e1:=en R vG;have e2:=en R BF;simp only [bh] at h;split at h
   ·rename_i n hn;obtain ⟨k,hk⟩:=Bs e2.1 hn;split at h
    ·rename_i kk gH es hx;split at h
     ·rename_i jb;obtain ⟨h0,h1,rfl⟩:=jb;simp at h;obtain ⟨rfl,rfl,rfl⟩:=h;refine ⟨rfl,rfl,fun o ho=>?_⟩;rw [hx] at e1;obtain ⟨h2,h3⟩:=e1;generalize hv:a.eval ox=v at h2;cases h2 with
      |v _ _ _ cX=>
       cases cX with
       |emp=>simp at h1;omega
       |sl _ _ b off cap aD hl ew fY tx=>
        refine ⟨.pointer (some ⟨b,off+n.toNat*gH+0,none⟩),?_,.ra _ _ _ _ 0 b off cap (.sl _ _ b off cap aD hl ew fY tx) (by omega),fun r hr=>by simp [AV.refs] at hr⟩;simp only [execOp,ho,hv,hk,Sem.run_bind,UF he hs h0 h1,Result.andThen_ok,Sem.run_pure,Nat.add_zero]
     ·cases h
    ·rename_i r j p hx;split at h
     ·rename_i gH es cN;split at h
      ·rename_i jb;obtain ⟨h0,h1,rfl⟩:=jb;simp at h;obtain ⟨rfl,rfl,rfl⟩:=h;refine ⟨rfl,rfl,fun o ho=>?_⟩;rw [hx] at e1;obtain ⟨h2,h3⟩:=e1;generalize hv:a.eval ox=v at h2;cases h2 with
       |pl _ _ _ _ _ _ hh=>
        obtain ⟨jd,ga,d0,fw,_⟩:=kP cN;obtain ⟨x0,lF⟩:=R.at cN;have lE:=hh jd;have mg:=lF.nh;subst mg;generalize hg:g.hd (r+1) j p=v0 at lF lE;cases lF with
        |nil=>simp at h1;omega
        |sl _ _ _ b off cap vals E fk aD hl ew hhp hN lA=>
         rw [lE] at hv;refine ⟨.pointer (some ⟨b,off+n.toNat*gH,none⟩),?_,.ad _ _ _ _ _ _ b _ fun _=>?_,fun r1 hr=>?_⟩
         ·simp only [execOp,ho,hv,hk,Sem.run_bind,UF he hs h0 h1,Result.andThen_ok,Sem.run_pure]
         ·simp [hg,yf]
         ·simp [AV.refs] at hr;subst hr;exact BV fw
      ·cases h
     ·cases h
    ·rename_i r j p gH lo hi hx;split at h
     ·rename_i es yy;split at h
      ·rename_i jb;obtain ⟨h0,h1,rfl⟩:=jb;simp at h;obtain ⟨rfl,rfl,rfl⟩:=h;refine ⟨rfl,rfl,fun o ho=>?_⟩;obtain ⟨rQ,cN,hlo,tv,rfl⟩:=Fq yy;rw [hx] at e1;obtain ⟨h2,h3⟩:=e1;generalize hv:a.eval ox=v at h2;have hlen:((rQ.take hi).drop lo).length=hi-lo:=by simp;omega
       rw [hlen] at h1;cases h2 with
       |rg _ _ _ _ _ _ _ _ _ hh=>
        obtain ⟨jd,ga,d0,fw,_⟩:=kP cN;obtain ⟨x0,lF⟩:=R.at cN;have lE:=hh jd;have mg:=lF.nh;subst mg;generalize hg:g.hd (r+1) j p=v0 at lF lE;cases lF with
        |nil=>simp at tv;omega
        |sl _ _ _ b off cap vals E fk aD hl ew hhp hN lA=>
         have cE:cap≠lo:=by omega
         simp only [nC,if_neg cE,zK,Addr.add_lit] at lE;rw [lE] at hv;refine ⟨.pointer (some ⟨b,off+lo*gH+n.toNat*gH,none⟩),?_,.ad _ _ _ _ _ _ b _ fun _=>?_,fun r1 hr=>?_⟩
         ·simp only [execOp,ho,hv,hk,Sem.run_bind,UF he hs h0 h1,Result.andThen_ok,Sem.run_pure]
         ·simp [hg,yf,zw];omega
         ·simp [AV.refs] at hr;subst hr;exact BV fw
      ·cases h
     ·cases h
    ·cases h
   ·cases h
  ·cases hc
 ·cases hc
theorem aj2 (R:Rel w0 cl0 S a.tmps w g) {x:PX} {k:Nat} {op:Op} {av:AV} {rt:Option Rt} {m':Ms}
 (hc:cv P κ (.ext x k) op=true) (h:bh Γ S.ev d S.ms (.ext x k)=some (av,rt,m')):lW P S w g a av rt m' op:=by
 cases op with
 |extract ox k'=>?_
 |_=>simp [cv] at hc
 simp only [cv,za,beq_iff_eq] at hc;obtain ⟨hc,rfl⟩:=hc;have e1:=en R hc;simp only [bh] at h;split at h
 ·rename_i cs hx;split at h
  ·rename_i a1 pB;simp at h;obtain ⟨rfl,rfl,rfl⟩:=h;refine ⟨rfl,rfl,fun o ho=>?_⟩;rw [hx] at e1;obtain ⟨h1,h2⟩:=e1;generalize hv:a.eval ox=v at h1;cases h1 with
   |cf _ vs hl eA=>
    have ai:=cY pB;have hg:vs[k]?=some vs[k]:=by simp [show k<vs.size from by omega]
    exact ⟨vs[k],by simp [execOp,ho,hv,Instr.extract,hg],eA k a1 _ pB hg,fun r hr=>h2 r (by simpa [AV.refs] using Gb pB hr)⟩
  ·cases h
 ·cases h
theorem ajY (R:Rel w0 cl0 S a.tmps w g) {x:PX} {k:IntKind} {op:Op} {av:AV} {rt:Option Rt} {m':Ms}
 (hc:cv P κ (.gn k x) op=true) (h:bh Γ S.ev d S.ms (.gn k x)=some (av,rt,m')):lW P S w g a av rt m' op:=by
 cases op with
 |convert s t ox=>?_
 |_=>simp [cv] at hc
 simp only [cv,za] at hc;obtain ⟨vG,hc⟩:=hc;have e1:=en R vG;simp only [bh] at h;split at h
 ·rename_i kk k1 n hx;simp at h;obtain ⟨rfl,rfl,rfl⟩:=h;refine ⟨rfl,rfl,fun o ho=>?_⟩;rw [hx] at e1;have hv:=tZ e1.1;split at hc
  ·rename_i u1 k' h1 h2;simp at hc;subst hc;refine ⟨.int k (k.wrap n),?_,.v _ _ _ (.int _ _),pP⟩;simp [execOp,ho,hv,convert,run_underlying h1,run_underlying h2,Conv.intToInt]
  ·cases hc
 ·cases h
theorem aj5 (R:Rel w0 cl0 S a.tmps w g) {x i:PX} {op:Op} {av:AV} {rt:Option Rt} {m':Ms}
 (hc:cv P κ (.idx x i) op=true) (h:bh Γ S.ev d S.ms (.idx x i)=some (av,rt,m')):lW P S w g a av rt m' op:=by
 cases op with
 |index t ox oi=>?_
 |_=>simp [cv] at hc
 simp only [cv,za] at hc;obtain ⟨⟨vG,BF⟩,hc⟩:=hc;have e1:=en R vG;have e2:=en R BF;simp only [bh] at h;split at h
 ·rename_i kk s n hx hn;split at h
  ·rename_i h0;split at h
   ·rename_i b hb;simp at h;obtain ⟨rfl,rfl,rfl⟩:=h;refine ⟨rfl,rfl,fun o ho=>?_⟩;rw [hx] at e1;have hv:=Cs e1.1;obtain ⟨k,hk⟩:=Bs e2.1 hn;cases hu:P.underlying t with
    |none=>simp [hu] at hc
    |some u=>
     cases u<;>simp [hu] at hc
     have Db:s[n.toNat]?=some b:=by
      rw [ByteArray.toList_eq] at hb;have ai:=cY hb;rw [zu ai] at hb;have aha:n.toNat<s.size:=by simpa using ai
      rw [getElem?_pos s n.toNat aha];have hd:s[n.toNat]=s.data[n.toNat]:=rfl;rw [hd];simpa using hb
     refine ⟨.int .u8 b.toNat,?_,.v _ _ _ (.int _ _),pP⟩;simp [execOp,ho,hv,hk,Instr.index,asIntOf,run_underlying hu,h0,Db]
   ·cases h
  ·cases h
 ·cases h
theorem aj_ (R:Rel w0 cl0 S a.tmps w g) {x y:PX} {op:Op} {av:AV} {rt:Option Rt} {m':Ms}
 (hc:cv P κ (.mn x y) op=true) (h:bh Γ S.ev d S.ms (.mn x y)=some (av,rt,m')):lW P S w g a av rt m' op:=by
 cases op with
 |call c=>?_
 |_=>simp [cv] at hc
 simp only [cv] at hc;split at hc
 ·rename_i a1 a2 qV lu;simp only [za] at hc;obtain ⟨h1,h2⟩:=hc;have e1:=(en R h1).1;have e2:=(en R h2).1;simp only [bh] at h;split at h
  ·rename_i k1 ka na k2 kb nb hx hy;simp at h;obtain ⟨rfl,rfl,rfl⟩:=h;refine ⟨rfl,rfl,fun o ho=>?_⟩;obtain ⟨cs,mK⟩:=yh (a:=a) qV lu rfl ho;rw [hx] at e1;rw [hy] at e2;rw [mK];refine ⟨_,?_,.v _ _ _ (.int _ _),pP⟩;simp [builtin,Builtin.min_,tZ e1,tZ e2,Builtin.min2]
  ·cases h
 ·cases hc
theorem aka (R:Rel w0 cl0 S a.tmps w g) {x y:PX} {op:Op} {av:AV} {rt:Option Rt} {m':Ms}
 (hc:cv P κ (.mx x y) op=true) (h:bh Γ S.ev d S.ms (.mx x y)=some (av,rt,m')):lW P S w g a av rt m' op:=by
 cases op with
 |call c=>?_
 |_=>simp [cv] at hc
 simp only [cv] at hc;split at hc
 ·rename_i a1 a2 qV lu;simp only [za] at hc;obtain ⟨h1,h2⟩:=hc;have e1:=(en R h1).1;have e2:=(en R h2).1;simp only [bh] at h;split at h
  ·rename_i k1 ka na k2 kb nb hx hy;simp at h;obtain ⟨rfl,rfl,rfl⟩:=h;refine ⟨rfl,rfl,fun o ho=>?_⟩;obtain ⟨cs,mK⟩:=yh (a:=a) qV lu rfl ho;rw [hx] at e1;rw [hy] at e2;rw [mK];refine ⟨_,?_,.v _ _ _ (.int _ _),pP⟩;simp [builtin,Builtin.max_,tZ e1,tZ e2,Builtin.max2]
  ·cases h
 ·cases hc
end
end
section
section
variable {P:Program} {κ:Nat→FuncId} {w0:World} {cl0:fS} {S:St} {w:World} {g:Gh} {a:Act} {Γ:Env} {d:Nat}
theorem VY {n:Int} {B0 k:Nat} (h:CM n B0=some k):0≤n∧n≤B0∧k=n.toNat:=by
 unfold CM at h;split at h
 ·rename_i hh;simp at h;exact ⟨hh.1,hh.2,h.symm⟩
 ·cases h
theorem run_sliceBound {v:Value} {n:Int} {y:Nat} {code:BoundsCode} (hv:∃k,v=.int k n) (h0:0≤n) (h1:n≤y):
 (Instr.sliceBound v y code).run P w=.ok n.toNat w:=by
 obtain ⟨k,rfl⟩:=hv;simp [Instr.sliceBound,asIntOf,h0,h1]
theorem MD (R:Rel w0 cl0 S a.tmps w g) {len cap:Nat} {lo hi:Option PX} {wg lz:Option Operand} {l h:Nat} (hlen:len≤cap) (hl:uF lo wg=true) (hh:uF hi lz=true)
 (he:tO len S.ev lo hi=some (l,h)) (isS:Bool):l≤h∧h≤len∧(Instr.sliceBounds isS len cap (wg.map a.eval) (lz.map a.eval) none).run P w=.ok (l,h,cap) w:=by
 unfold tO at he;split at he
 ·rename_i h1 qt;split at he
  ·rename_i l1 tz;simp at he;obtain ⟨rfl,rfl⟩:=he
   have H:h1≤len∧((lz=none∧h1=len)∨∃ox,lz=some ox∧∀code,(Instr.sliceBound (a.eval ox) cap code).run P w=.ok h1 w):=by
    cases hi with
    |none=>
     cases lz with
     |none=>simp at qt;subst qt;exact ⟨zp _,.inl ⟨rfl,rfl⟩⟩
     |some=>simp [uF] at hh
    |some x=>
     cases lz with
     |none=>simp [uF] at hh
     |some ox=>
      simp only [uF] at hh;have e:=(en R hh).1;simp only at qt;split at qt
      ·rename_i n hn;obtain ⟨b1,b2,b3⟩:=VY qt;subst b3;exact ⟨by omega,.inr ⟨ox,rfl,fun code=>run_sliceBound (Bs e hn) b1 (by omega)⟩⟩
      ·cases qt
   have L:l1≤h1∧((wg=none∧l1=0)∨∃ox,wg=some ox∧∀code,(Instr.sliceBound (a.eval ox) h1 code).run P w=.ok l1 w):=by
    cases lo with
    |none=>
     cases wg with
     |none=>simp at tz;subst tz;exact ⟨Nat.zero_le _,.inl ⟨rfl,rfl⟩⟩
     |some=>simp [uF] at hl
    |some x=>
     cases wg with
     |none=>simp [uF] at hl
     |some ox=>
      simp only [uF] at hl;have e:=(en R hl).1;simp only at tz;split at tz
      ·rename_i n hn;obtain ⟨b1,b2,b3⟩:=VY tz;subst b3;exact ⟨by omega,.inr ⟨ox,rfl,fun code=>run_sliceBound (Bs e hn) b1 b2⟩⟩
      ·cases tz
   refine ⟨L.1,H.1,?_⟩;rcases H.2 with ⟨rfl,rfl⟩|⟨oh,rfl,hH⟩<;>rcases L.2 with ⟨rfl,rfl⟩|⟨ol,rfl,hL⟩
   ·simp [Instr.sliceBounds]
   ·simp [Instr.sliceBounds,hL]
   ·simp [Instr.sliceBounds,hH]
   ·simp [Instr.sliceBounds,hH,hL]
  ·cases he
 ·cases he
theorem UG {t e:TypeId} {s gl:Nat} (ht:l_ P t=some e) (hs:la P e=some (s,gl)) {v:Option Addr} {len cap l h:Nat} {lo hi:Option Value}
 (hb:(Instr.sliceBounds true len cap lo hi none).run P w=.ok (l,h,cap) w):
 (Instr.sliceAt t (.slice v len cap) lo hi none).run P w=.ok (nC (.slice v len cap) s l h) w:=by
 unfold l_ at ht;split at ht
 ·rename_i e' hu;simp at ht;subst ht;unfold la at hs;split at hs
  ·rename_i i hi;simp at hs;obtain ⟨rfl,rfl⟩:=hs;simp [Instr.sliceAt,Instr.slice,run_underlying hu,hb,sizeOf,typeInfo,hi,nC]
  ·cases hs
 ·cases ht
theorem acq {k:Bool} {sz:Nat} {es:List (List D)} {b:Option Addr} {len cap l h:Nat} (hr:RO w g.cl k (.sl sz es) (.slice b len cap)) (h1:l≤h) (h2:h≤es.length):
 len=es.length∧RO w g.cl k (.sl sz (cut es l h)) (nC (.slice b len cap) sz l h):=by
 have hlen:(cut es l h).length=h-l:=by simp [cut];omega
 cases hr with
 |emp=>
  obtain rfl:h=0:=by simpa using h2
  obtain rfl:l=0:=by omega
  refine ⟨rfl,?_⟩;simp only [cut,nC,zV,List.drop_nil,Nat.sub_self];exact .emp _ _ _
 |sl _ _ b off _ aD hl ew fY hk=>
  refine ⟨rfl,?_⟩;by_cases hz:h=l
  ·subst hz;have:cut es h h=[]:=zy (by omega);rw [this];simp only [nC,Nat.sub_self];exact .emp _ _ _
  ·have cE:cap≠l:=by omega
   simp only [nC,if_neg cE,zK,Addr.add_lit];rw [←hlen];refine .sl _ _ b (off+l*sz) _ aD (fun e he=>hl e (zo (zx he))) (by omega) (fun i j hi hj=>?_) (fun i j e d x he hd hx=>?_)
   ·have:=fY (l+i) j (by omega) hj;rwa [show off+(l+i)*sz+j=off+l*sz+i*sz+j from by rw [zw];omega] at this
   ·have hi:=cY he;simp only [cut,zh] at he;rw [zd (by omega)] at he;refine hk (l+i) j e d x he hd ?_;rwa [show off+(l+i)*sz+j=off+l*sz+i*sz+j from by rw [zw];omega]
theorem akd (R:Rel w0 cl0 S a.tmps w g) {u_:Nat} {x:PX} {lo hi:Option PX} {op:Op} {av:AV} {rt:Option Rt} {m':Ms}
 (hc:cv P κ (.iI u_ x lo hi) op=true) (h:bh Γ S.ev d S.ms (.iI u_ x lo hi)=some (av,rt,m')):lW P S w g a av rt m' op:=by
 cases op with
 |slice t ox wg lz mx=>?_
 |_=>simp [cv] at hc
 simp only [cv,za] at hc;obtain ⟨⟨⟨⟨hm,vG⟩,aD⟩,oM⟩,hc⟩:=hc;obtain rfl:mx=none:=by cases mx<;>simp_all
 have e1:=en R vG;split at hc
 ·rename_i e he;split at hc
  ·rename_i s gl hs;simp at hc;subst hc;simp only [bh] at h;split at h
   ·rename_i k sz es hx;split at h
    ·rename_i l hh tA;split at h
     ·rename_i dM;subst dM;simp at h;obtain ⟨rfl,rfl,rfl⟩:=h;refine ⟨rfl,rfl,fun o ho=>?_⟩;rw [hx] at e1;obtain ⟨h1,h2⟩:=e1;generalize hv:a.eval ox=v at h1;cases h1 with
      |v _ _ _ cX=>
       obtain ⟨b,n,c,rfl,oQ⟩:∃b n c,v=.slice b n c∧n≤c:=by
        cases cX with
        |emp=>exact ⟨_,_,_,rfl,Nat.zero_le _⟩
        |sl _ _ _ _ _ _ _ ew=>exact ⟨_,_,_,rfl,ew⟩
       have hle:=MD (P:=P) R (cap:=c) (by
        have:n=es.length:=by
         cases cX with
         |emp=>rfl
         |sl=>rfl
        omega) aD oM tA true
       obtain ⟨hn,qy⟩:=acq cX hle.1 hle.2.1;subst hn;refine ⟨_,?_,.v _ _ _ qy,pP⟩;have vP:=UG he hs (v:=b) hle.2.2;simp [execOp,ho,hv,vP]
     ·cases h
    ·cases h
   ·rename_i sz hx;split at h
    ·rename_i lh tA;obtain ⟨l,hh⟩:=lh;simp at h;obtain ⟨rfl,rfl,rfl⟩:=h;refine ⟨rfl,rfl,fun o ho=>?_⟩;rw [hx] at e1;obtain ⟨h1,h2⟩:=e1;generalize hv:a.eval ox=v at h1;cases h1 with
     |nl=>
      have hle:=MD (P:=P) R (cap:=0) (zp _) aD oM tA true;have vP:=UG he hs (v:=none) hle.2.2;obtain rfl:hh=0:=by omega
      obtain rfl:l=0:=by omega
      refine ⟨.slice none 0 0,?_,.nl _,fun r hr=>by simp [AV.refs] at hr⟩;simp [execOp,ho,hv,vP,nC]
    ·cases h
   ·rename_i r j p hx;split at h
    ·rename_i sz es cN;split at h
     ·rename_i l hh tA;split at h
      ·rename_i dM;subst dM;simp at h;obtain ⟨rfl,rfl,rfl⟩:=h;refine ⟨rfl,rfl,fun o ho=>?_⟩;rw [hx] at e1;obtain ⟨h1,h2⟩:=e1;generalize hv:a.eval ox=v at h1;cases h1 with
       |pl _ _ _ b1 n1 c1 qt=>
        obtain ⟨jd,ga,d0,fw,_⟩:=kP cN;obtain ⟨x0,lF⟩:=R.at cN;have lE:=qt jd;have mg:=lF.nh;subst mg
        obtain ⟨b,n,c,hg,oQ,cE⟩:∃b n c,g.hd (r+1) j p=.slice b n c∧n≤c∧n=es.length:=by
         generalize g.hd (r+1) j p=v0 at lF;cases lF with
         |nil=>exact ⟨_,_,_,rfl,zp _,rfl⟩
         |sl _ _ _ b off cap=>exact ⟨_,_,_,rfl,by assumption,rfl⟩
        have hle:=MD (P:=P) R (cap:=c) (by omega) aD oM tA true;subst cE;have vP:=UG he hs (v:=b) hle.2.2;rw [hg] at lE;refine ⟨nC (.slice b es.length c) sz l hh,?_,.rg _ _ _ _ _ _ _ _ _ fun _=>by rw [hg];rfl,fun r1 hr=>?_⟩
        ·simp [execOp,ho,hv,lE,vP]
        ·simp [AV.refs] at hr;subst hr;exact BV fw
      ·cases h
     ·cases h
    ·cases h
   ·cases h
  ·cases hc
 ·cases hc
theorem aec:∀(es:List (List D)) {bs:List UInt8},sT es=some bs→
 ∃ns:List Int,es=ns.map (fun n=>[D.int .u8 n])∧bs=ns.map (fun n=>zY n.toNat):=by
 intro es;induction es with
 |nil=>intro bs h;simp [sT] at h;subst h;exact ⟨[],rfl,rfl⟩
 |cons e es ih=>
  intro bs h;unfold sT at h;split at h
  ·rename_i h1;cases h1
  ·rename_i n l h1;cases h1;split at h
   ·rename_i bs' h2;simp at h;subst h;obtain ⟨ns,h3,h4⟩:=ih h2;exact ⟨n::ns,by simp [h3],by simp [h4]⟩
   ·cases h
  ·cases h
theorem ajZ (R:Rel w0 cl0 S a.tmps w g) {x:PX} {op:Op} {av:AV} {rt:Option Rt} {m':Ms}
 (hc:cv P κ (.qg x) op=true) (h:bh Γ S.ev d S.ms (.qg x)=some (av,rt,m')):lW P S w g a av rt m' op:=by
 cases op with
 |convert src dst ox=>?_
 |_=>simp [cv] at hc
 simp only [cv,za] at hc;obtain ⟨vG,hc⟩:=hc;have e1:=(en R vG).1;simp only [bh] at h;split at h
 ·rename_i sz es uJ;split at h
  ·rename_i bs gK;simp at h;obtain ⟨rfl,rfl,rfl⟩:=h;refine ⟨rfl,rfl,fun o ho=>?_⟩;split at hc
   ·rename_i e hs hd
    have he:P.underlying e=some (.int .u8):=by
     cases hu:P.underlying e with
     |none=>simp [hu] at hc
     |some u=>
      cases u with
      |int k=>cases k<;>simp [hu] at hc ⊢
      |_=>simp [hu] at hc
    obtain ⟨b,cap,hv,_,C8⟩:=JI R e1 uJ;obtain ⟨ns,rfl,rfl⟩:=aec es gK;refine ⟨.string (strOfNums ns),?_,.v _ _ _ (.str _),pP⟩;cases ns with
    |nil=>
     cases b with
     |none=>
      have:=run_convert_bytes_nil (P:=P) w src e hs he 0 cap dst hd;simp only [execOp,ho,hv,Sem.run_bind,zX,zU,this,Result.andThen_ok,Sem.run_pure];rfl
     |some a1=>
      obtain ⟨b1,o1,s1⟩:=a1;have hl:(loadCells ⟨b1,o1,s1⟩ 0).run P w=.ok (([]:List Int).map (Value.int .u8)).toArray w:=by simp [loadCells,loadCellsFrom]
      have h1:=run_convert_bytes_string w src dst e (some ⟨b1,o1,s1⟩) 0 cap hs he hd;have h2:=run_bytesToString w ⟨b1,o1,s1⟩ 0 cap [] hl;simp only [execOp,ho,hv,Sem.run_bind,zX,zU,h1,h2,Result.andThen_ok,Sem.run_pure];rfl
    |cons n ns=>
     obtain ⟨b',o',rfl,_,hlen,fU⟩:=C8 (by simp);have dM:sz=1:=by have:=hlen [D.int .u8 n] (by simp);simpa using this.symm
     subst dM
     have:=run_convert_bytes_arg (P:=P) w src e hs he b' o' (n::ns).length cap (n::ns) rfl (fun i hi=>by
      have hg:((n::ns).map fun n=>[D.int .u8 n])[i]?=some [D.int .u8 ((n::ns).getD i 0)]:=by
       rw [ze,zu hi];simp [List.getD,zu hi]
      obtain ⟨x,hx,vW⟩:=fU i 0 _ _ hg rfl
      have DE:x=.int .u8 ((n::ns).getD i 0):=by
       rcases vW with ⟨k,h⟩|⟨_,_,_,h⟩<;>cases h<;>rfl
      rw [←DE];simpa using hx) dst hd
     simp only [execOp,ho,hv,Sem.run_bind,List.length_map,this,Result.andThen_ok,Sem.run_pure]
   ·cases hc
  ·cases h
 ·cases h
end
end
section
section
variable {P:Program} {κ:Nat→FuncId} {w0:World} {cl0:fS} {S:St} {w:World} {g:Gh} {a:Act} {Γ:Env} {d:Nat}
def kq (w0:World) (cl0:fS) (S:St) (ts:Array Value) (d:Nat) (av:AV) (rt:Option Rt) (m':Ms) (v:Value) (w':World):Prop:=
 ∃g',Rel w0 cl0 { S with ms:=match rt with|none=>m'|some r=>bO m' d (some r,[]) } ts w' g'∧
  RA w' g' (match rt with|none=>m'|some r=>bO m' d (some r,[])) av v∧Live (match rt with|none=>m'|some r=>bO m' d (some r,[])) av
def Gh.new (g:Gh) (d b:Nat) (C:gR) (H:Nat→bQ→Value):Gh where
 cl:=bO g.cl b C
 hd:=fun r j ρ=>if r=d+1 then H j ρ else g.hd r j ρ
 bk:=bO g.bk d b
theorem h_.new {w':World} (gw:∀b,g.cl b≠.no→b<w.heap.size) {d:Nat} {C:gR} {H:Nat→bQ→Value} (hC:C=.box d∨∃j p,C=.own (d+1) j p)
 (hp:∀b,b<w.heap.size→w'.heap[b]?=w.heap[b]?) (hs:w'.heap.size=w.heap.size+1) (gD:il w w'):h_ d w w' g (g.new d w.heap.size C H) where
 sd:=gD
 hp:=fun b h _=>hp b h
 hs:=by omega
 kc:=fun b k=>by
  simp only [Gh.new,bO];split
  ·rename_i e;subst e
   have:g.cl w.heap.size=.no:=by
    by_cases h:g.cl w.heap.size=.no
    ·exact h
    ·exact absurd (gw _ h) (Nat.lt_irrefl _)
   rw [this];rcases hC with rfl|⟨j,p,rfl⟩<;>cases k<;>simp [OM.kc]
  ·exact .rfl
 cl:=fun b n j ρ h hn=>by
  have:b≠w.heap.size:=fun e=>by have:=gw b (by rw [h];simp);omega
  simp [Gh.new,bO,this,h]
 bx:=fun b n h hn=>by
  have:b≠w.heap.size:=fun e=>by have:=gw b (by rw [h];simp);omega
  simp [Gh.new,bO,this,h]
 hd:=fun n j ρ hn=>by simp [Gh.new,hn]
 bk:=fun n hn=>by simp [Gh.new,bO,hn]
 bd:=fun b h=>by
  by_cases e:b=w.heap.size
  ·exact .inr ⟨by omega,by omega⟩
  ·simp only [Gh.new,mW e] at h;exact .inl h
 mi:=fun b hb h=>by
  have:b≠w.heap.size:=by omega
  simpa [Gh.new,bO,this] using h
theorem val_one {m:Ms} {av:AV} {v:Value} (h:RA w g m av v) (hv:av.isVal=true) (hn:∀cs,av≠.agg cs):v.cells=#[v]∧v.oneCell'=true:=by
 cases h with
 |un=>simp [AV.isVal] at hv
 |v k d x h=>
  cases h with
  |dead=>simp [AV.isVal] at hv
  |_=>exact ⟨rfl,rfl⟩
 |agg cs=>exact absurd rfl (hn cs)
 |cf=>simp [AV.isVal] at hv
 |_=>exact ⟨rfl,rfl⟩
theorem Fe {m:Ms} {av:AV} {v:Value} (h:RA w g m av v) (hv:av.isVal=true):
 av.cells.length=v.cells.size∧∀(k:Nat) (b:AV) (x:Value),av.cells[k]?=some b→v.cells[k]?=some x→RA w g m b x:=by
 by_cases hn:∀cs,av≠.agg cs
 ·have h1:=(val_one h hv hn).1;have h2:av.cells=[av]:=by cases av<;>first|rfl|exact absurd rfl (hn _)
  rw [h1,h2];refine ⟨rfl,fun k b x h3 h4=>?_⟩;cases k with
  |zero=>simp at h3 h4;subst h3;subst h4;exact h
  |succ k=>simp at h3
 ·obtain ⟨cs,hn⟩:=Classical.not_forall.1 hn;obtain rfl:=Classical.not_not.1 hn;cases h with
  |agg _ vs hl eA=>exact ⟨hl,eA⟩
theorem abt {m m':Ms} {av:AV} {cs:List C} (h:jC m av.cells=some (cs,m')):av.isVal=true:=by
 cases av with
 |un=>simp [AV.cells,jC,iA] at h
 |cf=>simp [AV.cells,jC,iA] at h
 |v k d=>cases d<;>first|rfl|(simp [AV.cells,jC,iA] at h)
 |_=>rfl
theorem aiB {m:Ms} {av:AV} {cs:List C} (h:mw m av.cells=some cs):av.isVal=true:=by
 cases av with
 |un=>simp [AV.cells,mw,sk] at h
 |cf=>simp [AV.cells,mw,sk] at h
 |v k d=>cases d<;>first|rfl|(simp [AV.cells,mw,sk] at h)
 |_=>rfl
theorem akS {m:Ms} {av:AV} {c:C} {x:Value} (ha:RA w g m av x) (h:sk m av=some c) {w':World} {g':Gh} {r j:Nat}
 (hb:∀b k,g.cl b=kc k→w'.heap[b]?=w.heap[b]?∧g'.cl b=kc k) (hh:g'.hd r j []=x)
 (hr:∀r1 j1,((m r1).1).isSome→g'.hd (r1+1) j1 []=g.hd (r1+1) j1 []):RC w' g' r j c x∧(∀r1 j1,c=.rf r1 j1→∃cs,(m r1).1=some (.aX cs)):=by
 unfold sk at h;split at h
 ·cases h
 ·simp at h;subst h;cases ha with
  |v _ _ _ cX=>exact ⟨.ro _ _ _ (cX.mono fun b hc=>hb b _ hc),by simp⟩
 ·simp at h;subst h;cases ha with
  |nl=>exact ⟨.own _ _ (.nil _ _ hh),by simp⟩
 ·rename_i r0 j0;split at h
  ·rename_i cs fY;split at h
   ·cases h
   ·rename_i hk;simp at h;subst h;cases ha with
    |pl _ _ _ b n c0 hx=>
     refine ⟨.rf r0 j0 b n c0 ?_,fun r1 j1 e=>?_⟩
     ·rw [hr r0 j0 (by rw [fY];rfl)];exact (hx (by simpa using hk)).symm
     ·simp at e;obtain ⟨rfl,rfl⟩:=e;exact ⟨cs,fY⟩
  ·cases h
 ·cases h
theorem akT {m:Ms}:∀(as:List AV) {cs:List C},mw m as=some cs→cs.length=as.length∧∀(i:Nat) (c:C),cs[i]?=some c→∃av,as[i]?=some av∧sk m av=some c:=by
 intro as;induction as with
 |nil=>intro cs h;simp [mw] at h;subst h;exact ⟨rfl,fun i c h=>by simp at h⟩
 |cons b bs ih=>
  intro cs h;simp only [mw] at h;cases h1:sk m b with
  |none=>simp [h1] at h
  |some c=>
   simp only [h1] at h;cases h2:mw m bs with
   |none=>simp [h2] at h
   |some Bz=>
    simp only [h2] at h;simp at h;subst h;obtain ⟨hl,hg⟩:=ih h2;refine ⟨by simp [hl],fun i c1 hc=>?_⟩;cases i with
    |zero=>simp at hc;subst hc;exact ⟨b,rfl,h1⟩
    |succ i=>exact hg i c1 (by simpa using hc)
theorem abG (R:Rel w0 cl0 S a.tmps w g) {as:List AV} {vals:Array Value} {cs:List C} (hn:(S.ms d).1=none) (fY:mw S.ms as=some cs)
 (hl:as.length=vals.size) (eA:∀(k:Nat) (b:AV) (x:Value),as[k]?=some b→vals[k]?=some x→RA w g S.ms b x) (E:TypeId):
 kq w0 cl0 S a.tmps d (.bx d 0) (some (.bx cs)) S.ms (.pointer (some ⟨w.heap.size,0,none⟩)) (w.alloc (.cells vals E)):=by
 obtain ⟨aD,hcg⟩:=akT as fY;have ie:∀b,b<w.heap.size→(w.alloc (.cells vals E)).heap[b]?=w.heap[b]?:=fun b hb=>heap_alloc_old w _ b hb
 have H:=h_.new (w:=w) (w':=w.alloc (.cells vals E)) (g:=g) R.bd (d:=d) (C:=.box d) (H:=fun j _=>vals.getD j undef) (.inl rfl) ie (by simp) (.alloc _ _)
 have g9:∀b k,g.cl b=kc k→(w.alloc (.cells vals E)).heap[b]?=w.heap[b]?∧(g.new d w.heap.size (.box d) (fun j _=>vals.getD j undef)).cl b=kc k:=
  fun b k h=>⟨ie b (R.bd b (by rw [h];cases k<;>simp [kc])),(H.kc b k).2 h⟩
 have cE:∀r,((S.ms r).1).isSome→r≠d:=fun r h e=>by subst e;simp [hn] at h
 have uQ:∀(j:Nat) (c:C) (x:Value),cs[j]?=some c→vals[j]?=some x→
  RC (w.alloc (.cells vals E)) (g.new d w.heap.size (.box d) (fun j _=>vals.getD j undef)) (d+1) j c x∧(∀r1 j1,c=.rf r1 j1→∃cs,(S.ms r1).1=some (.aX cs)):=by
  intro j c x hc hx;obtain ⟨av,h1,h2⟩:=hcg j c hc;refine akS (eA j av x h1 hx) h2 g9 ?_ (fun r1 j1 h=>by simp [Gh.new,cE r1 h]);simp [Gh.new,zm,hx]
 refine ⟨_,R.fresh (rt:=.bx cs) hn H ?_ ?_,?_,?_⟩
 ·refine ⟨by simp [Gh.new,bO],vals,E,by simp only [Gh.new,qK];exact heap_alloc_new w _,by omega,fun j c x hc hx=>(uQ j c x hc hx).1⟩
 ·intro j r1 j1 hj;simp only [Rt.cells] at hj;have ai:j<vals.size:=by have:=cY hj;omega
  exact (uQ j _ vals[j] hj (by simp [ai])).2 r1 j1 rfl
 ·have:(g.new d w.heap.size (.box d) (fun j _=>vals.getD j undef)).bk d=w.heap.size:=by simp [Gh.new,bO]
  have hb:=RA.bx (w:=w.alloc (.cells vals E)) (g:=g.new d w.heap.size (.box d) (fun j _=>vals.getD j undef)) (m:=bO S.ms d (some (.bx cs),[])) d 0;rw [this] at hb;exact hb
 ·intro r hr;simp [AV.refs] at hr;subst hr;simp [bO]
theorem ajS (R:Rel w0 cl0 S a.tmps w g) {n:Nat} {x:PX} {op:Op} {av:AV} {rt:Option Rt} {m':Ms} (hn:(S.ms d).1=none)
 (hc:cv P κ (.box n x) op=true) (h:bh Γ S.ev d S.ms (.box n x)=some (av,rt,m')) (o:Oper) (ho:o.op=op):
 ∃v w',(execOp a.eval o).run P w=.ok (.value v) w'∧kq w0 cl0 S a.tmps d av rt m' v w':=by
 cases op with
 |box e ox=>?_
 |_=>simp [cv] at hc
 simp only [cv] at hc;have e1:=(en R hc).1;simp only [bh] at h;split at h
 ·rename_i cs fY;split at h
  ·simp at h;obtain ⟨rfl,rfl,rfl⟩:=h;obtain ⟨hl,eA⟩:=Fe e1 (aiB fY);refine ⟨_,_,?_,abG R hn fY hl eA e⟩;simp [execOp,ho,Instr.box,newVar,newRow]
  ·cases h
 ·cases h
theorem V7:∀(as:List AV) (vs:List Value),yi as vs=true→as.length=vs.length∧∀(i:Nat) (b:AV) (v:Value),as[i]?=some b→vs[i]?=some v→CO b v=true:=by
 intro as;induction as with
 |nil=>intro vs h;cases vs<;>simp [yi] at h ⊢
 |cons b bs ih=>
  intro vs h;cases vs with
  |nil=>simp [yi] at h
  |cons v vs=>
   simp only [yi,za] at h;obtain ⟨h1,h2⟩:=ih vs h.2;refine ⟨by simp [h1],fun i c x hc hx=>?_⟩;cases i with
   |zero=>simp at hc hx;subst hc;subst hx;exact h.1
   |succ i=>exact h2 i c x (by simpa using hc) (by simpa using hx)
theorem Bm {e:TypeId} {z:List Value} (h:vf P e=some z):∃i zv,P.info? e=some i∧i.zero=some zv∧zv.cells.toList=z∧zv.cells.size=i.size:=by
 unfold vf at h;split at h
 ·rename_i i hi;split at h
  ·rename_i zv hz;split at h
   ·rename_i hs;simp at h;exact ⟨i,zv,hi,hz,h,hs⟩
   ·cases h
  ·cases h
 ·cases h
theorem ajP (R:Rel w0 cl0 S a.tmps w g) {zs:List AV} {op:Op} {av:AV} {rt:Option Rt} {m':Ms} (hn:(S.ms d).1=none)
 (hc:cv P κ (.alloc zs) op=true) (h:bh Γ S.ev d S.ms (.alloc zs)=some (av,rt,m')) (o:Oper) (ho:o.op=op):
 ∃v w',(execOp a.eval o).run P w=.ok (.value v) w'∧kq w0 cl0 S a.tmps d av rt m' v w':=by
 cases op with
 |alloc e=>?_
 |_=>simp [cv] at hc
 simp only [cv] at hc;split at hc
 ·rename_i z hz;obtain ⟨i,zv,hi,pO,pM,_⟩:=Bm hz;obtain ⟨hl,hg⟩:=V7 zs z hc;simp only [bh] at h;split at h
  ·rename_i cs fY;simp at h;obtain ⟨rfl,rfl,rfl⟩:=h;refine ⟨_,_,?_,abG R (vals:=zv.cells) hn fY (by rw [hl,←pM];simp) (fun k b x hb hx=>?_) e⟩
   ·simp [execOp,ho,Instr.alloc,zeroValue,typeInfo,hi,pO,newVar,newRow]
   ·exact (Jt (hg k b x hb (by rw [←pM];simpa using hx))).1
  ·cases h
 ·cases hc
end
end
end Go.Proofs.YtohlfelngklcfaaGreat.OM
