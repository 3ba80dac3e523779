/- A part of the proof. -/
import Derived.Calls
import Derived.Orders
import Derived.Laws.Sem
import Derived.Laws.Cells
import Derived.Laws.Append
import Derived.Laws.AppendOwn
import Derived.Laws.MakeOwn
import Derived.Laws.CopyRow
import Derived.Laws.Entries
import Derived.Laws.StructEq
set_option linter.all false
namespace Go.Proofs.YtohlfelngklcfaaGreat.OM
open Bool renaming and_eq_true→za,false_eq_true→zy
open Option renaming map_eq_some_iff→zb,isSome_iff_exists→zp,map_some→zQ
open List renaming getElem?_take_of_lt→zd,getElem?_set_self→ze,getElem?_take→zf,append_assoc→zg,getElem?_map→zh,getElem?_set_ne→zi,getElem?_drop→zk,getElem?_range→zn,mem_of_mem_take→zt,prefix_append_right_inj→zu,getElem?_append_right→zz,getElem?_append_left→zC,length_take→zD,append_nil→zE,replicate→zH,getElem?_eq_none→zI,mem_of_mem_drop→zK,length_append→zL,size_toArray→zN,mem_append→zO
open Go renaming binOp→zj
open Nat renaming mul_le_mul_right→zm,lt_or_ge→zr,lt_of_lt_of_le→zx,le_refl→zF,add_mul→zG,add_assoc→zR
open BitVec renaming ofInt→zo
open _root_.Array renaming getElem?_eq_none→zq,getD_eq_getD_getElem?→zw,getElem?_append_left→zA,getElem?_toList→zJ,append_assoc→zM
open Option.some renaming injEq→zB,inj→zP
section
inductive D where
 |int (k:IntKind) (n:Int)
 |bool (b:Bool)
 |str (s:ByteArray)
 |sl (sz:Nat) (es:List (List D))
 |dead
 |fn (g:Nat) (ds:List D)
 |rp (ds:List D)
 deriving Inhabited
abbrev aI:=List (Nat×Nat)
inductive C where
 |ro (k:Bool) (d:D)
 |own (d:D)
 |rf (r j:Nat)
 deriving Inhabited
inductive Rt where
 |aR (cs:List C)
 |bx (cs:List C)
 deriving Inhabited
inductive AV where
 |v (k:Bool) (d:D)
 |nl (sz:Nat)
 |agg (cs:List AV)
 |bu (cs:List AV)
 |pl (r j:Nat) (p:aI)
 |rg (r j:Nat) (p:aI) (sz lo hi:Nat)
 |bx (r j:Nat)
 |ad (r j:Nat) (p:aI) (sz i c:Nat)
 |ra (k:Bool) (sz:Nat) (es:List (List D)) (i c:Nat)
 |fv (f r:Nat)
 |un
 deriving Inhabited
inductive V where
 |one (c:C)
 |st (cs:List C)
 |ptr (cs:List C)
 |bu (vs:List V)
 deriving Inhabited
def D.bC:D→Bool
 |.int ..|.bool _|.str _=>true
 |_=>false
def D.live:D→Bool
 |.dead=>false
 |_=>true
def D.ff:D→aI→Option D
 |d,[]=>some d
 |.sl _ es,(i,j)::p=>
  match es[i]? with
  |some e=>match e[j]? with
   |some d=>d.ff p
   |none=>none
  |none=>none
 |_,_::_=>none
def D.put:D→aI→D→D
 |_,[],x=>x
 |.sl sz es,(i,j)::p,x=>
  match es[i]? with
  |some e=>match e[j]? with
   |some d=>.sl sz (es.set i (e.set j (d.put p x)))
   |none=>.sl sz es
  |none=>.sl sz es
 |d,_::_,_=>d
def Rt.cells:Rt→List C
 |.aR cs|.bx cs=>cs
def Rt.gB:Rt→Nat→C→Rt
 |.aR cs,j,c=>.aR (cs.set j c)
 |.bx cs,j,c=>.bx (cs.set j c)
def Rt.sU:Rt→Bool
 |.aR _=>true
 |.bx _=>false
abbrev Mem:=Option Rt×List (Nat×aI)
abbrev Ms:=Nat→Mem
def aB {α:Type} (f:Nat→α) (n:Nat) (x:α):Nat→α:=fun k=>if k=n then x else f k
def jG:aI→aI→Bool
 |[],_=>true
 |(_,c)::k,(_,c')::p=>c==c'&&jG k p
 |_::_,[]=>false
def Ms.bM (m:Ms) (r j:Nat) (p:aI):Bool:=(m r).2.any fun x=>x.1==j&&jG x.2 p
def Ms.cell (m:Ms) (r j:Nat):Option C:=
 match (m r).1 with
 |some rt=>rt.cells[j]?
 |none=>none
def Ms.at (m:Ms) (r j:Nat) (p:aI):Option D:=
 if m.bM r j p then none else
 match m.cell r j with
 |some (.own d)=>d.ff p
 |_=>none
def Ms.putAt (m:Ms) (r j:Nat) (p:aI) (x:D) (kl:List (Nat×aI)):Option Ms:=
 match (m r).1 with
 |some rt=>match rt.cells[j]? with
  |some (.own d)=>some (aB m r (some (rt.gB j (.own (d.put p x))),kl++(m r).2))
  |_=>none
 |none=>none
def Ms.take (m:Ms) (r j:Nat) (p:aI):Option (D×Ms):=
 match m.at r j p with
 |some (.sl sz es)=>match m.putAt r j p .dead [] with
  |some m'=>some (.sl sz es,m')
  |none=>none
 |_=>none
def rq (k:Bool) (d:D):AV:=
 match d with
 |.sl sz es=>.v k (.sl sz es)
 |.fn g ds=>.v k (.fn g ds)
 |.rp ds=>.v k (.rp ds)
 |d=>.v false d
def qB (r j:Nat) (p:aI) (d:D):AV:=
 match d with
 |.sl _ _=>.pl r j p
 |.dead=>.un
 |d=>.v false d
def kt (r j:Nat) (c:C):AV:=
 match c with
 |.ro k d=>rq k d
 |.own d=>qB r j [] d
 |.rf r' j'=>.pl r' j' []
def AV.cells:AV→List AV
 |.agg cs=>cs
 |a=>[a]
def rZ (d:Option D) (sz lo hi:Nat):Option (List (List D)):=
 match d with
 |some (.sl dQ es)=>if dQ=sz∧lo≤hi∧hi≤es.length then some ((es.take hi).drop lo) else none
 |_=>none
def cut (es:List (List D)) (lo hi:Nat):List (List D):=(es.take hi).drop lo
def eo (m:Ms):AV→Option (C×Ms)
 |.v _ .dead=>none
 |.v k d=>some (.ro k d,m)
 |.nl sz=>some (.own (.sl sz []),m)
 |.pl r j p=>match m.take r j p with
  |some (d,m')=>some (.own d,m')
  |none=>none
 |.rg r j p sz 0 hi=>match rZ (m.at r j p) sz 0 hi,m.take r j p with
  |some es,some (_,m')=>some (.own (.sl sz es),m')
  |_,_=>none
 |_=>none
def eX (m:Ms):List AV→Option (List C×Ms)
 |[]=>some ([],m)
 |a::as=>match eo m a with
  |some (c,m')=>match eX m' as with
   |some (cs,o6)=>some (c::cs,o6)
   |none=>none
  |none=>none
def C.oA:C→Option D
 |.ro _ d=>if d.bC then some d else none
 |.own d=>some d
 |.rf ..=>none
def qq:List C→Option (List D)
 |[]=>some []
 |c::cs=>match c.oA with
  |some d=>match qq cs with
   |some ds=>some (d::ds)
   |none=>none
  |none=>none
def mF (m:Ms):AV→Option C
 |.v _ .dead=>none
 |.v k d=>some (.ro k d)
 |.nl sz=>some (.own (.sl sz []))
 |.pl r j []=>match (m r).1 with
  |some (.aR _)=>if m.bM r j [] then none else some (.rf r j)
  |_=>none
 |_=>none
def gT (m:Ms):List AV→Option (List C)
 |[]=>some []
 |a::as=>match mF m a with
  |some c=>match gT m as with
   |some cs=>some (c::cs)
   |none=>none
  |none=>none
def Ms.eY (m:Ms):AV→Option (Nat×List (List D))
 |.v _ (.sl sz es)=>some (sz,es)
 |.nl sz=>some (sz,[])
 |.pl r j p=>match m.at r j p with
  |some (.sl sz es)=>some (sz,es)
  |_=>none
 |.rg r j p sz lo hi=>match rZ (m.at r j p) sz lo hi with
  |some es=>some (sz,es)
  |none=>none
 |_=>none
def AV.asInt:AV→Option Int
 |.v _ (.int _ n)=>some n
 |_=>none
def AV.asBool:AV→Option Bool
 |.v _ (.bool b)=>some b
 |_=>none
def ic {α:Type} (l:List α) (c:Nat) (xs:List α):List α:=l.take c++xs++l.drop (c+xs.length)
def C.bC:C→Bool
 |.ro _ _=>true
 |.own _=>false
 |.rf ..=>false
def jx (m:Ms) (n:Nat):AV→Option (List AV)
 |.bx r j=>match (m r).1 with
  |some (.bx cs)=>if j+n≤cs.length then some (((cs.drop j).take n).zipIdx.map fun x=>kt r (j+x.2) x.1) else none
  |_=>none
 |.ad r j p sz i c=>match m.at r j p with
  |some (.sl dQ es)=>match es[i]? with
   |some e=>if c+n≤e.length∧dQ=sz then some (((e.drop c).take n).zipIdx.map fun x=>qB r j (p++[(i,c+x.2)]) x.1) else none
   |none=>none
  |_=>none
 |.ra k _ es i c=>match es[i]? with
   |some e=>if c+n≤e.length then some (((e.drop c).take n).map fun x=>rq k x) else none
   |none=>none
 |.v k (.rp ds)=>if n≤ds.length then some ((ds.take n).map fun x=>rq k x) else none
 |_=>none
def mC (j:Nat):List C→List C→List (Nat×aI)
 |c::cs,c'::kI=>if c.bC&&c'.bC then mC (j+1) cs kI else (j,[])::mC (j+1) cs kI
 |_,_=>[]
def lC (j:Nat) (p:aI) (i c:Nat):List D→List D→List (Nat×aI)
 |d::ds,d'::r5=>if d.bC&&d'.bC then lC j p i (c+1) ds r5 else (j,p++[(i,c)])::lC j p i (c+1) ds r5
 |_,_=>[]
def kR (m:Ms) (cs:List C):AV→Option Ms
 |.bx r j=>match m r with
  |(some (.bx cs0),kl)=>
   if j+cs.length≤cs0.length then
    some (aB m r (some (.bx (ic cs0 j cs)),mC j (cs0.drop j) cs++kl))
   else none
  |_=>none
 |.ad r j p sz i c=>match qq cs with
  |some ds=>match m.at r j p with
   |some (.sl dQ es)=>match es[i]? with
    |some e=>
     if c+ds.length≤e.length∧dQ=sz then
      m.putAt r j p (.sl sz (es.set i (ic e c ds))) (lC j p i c (e.drop c) ds)
     else none
    |none=>none
   |_=>none
  |none=>none
 |_=>none
def pe (op:BinOp):D→D→Option D
 |.int k a,.int k' b=>
  match op with
  |.shl=>if b<0 then none else some (.int k (k.wrap (a*2^(min b.toNat k.bits))))
  |.shr=>if b<0 then none else some (.int k (a.fdiv (2^(min b.toNat k.bits))))
  |op=>
   if k=k' then
    match op with
    |.add=>some (.int k (k.wrap (a+b)))
    |.sub=>some (.int k (k.wrap (a-b)))
    |.mul=>some (.int k (k.wrap (a*b)))
    |.quo=>if b=0 then none else some (.int k (k.wrap (a.tdiv b)))
    |.rem=>if b=0 then none else some (.int k (a.tmod b))
    |.and=>some (.int k (k.wrap (zo k.bits a &&& zo k.bits b).toNat))
    |.or=>some (.int k (k.wrap (zo k.bits a ||| zo k.bits b).toNat))
    |.xor=>some (.int k (k.wrap (zo k.bits a ^^^ zo k.bits b).toNat))
    |.eql=>some (.bool (a==b))
    |.neq=>some (.bool (a !=b))
    |.lss=>some (.bool (a<b))
    |.leq=>some (.bool (a≤b))
    |.gtr=>some (.bool (a>b))
    |.geq=>some (.bool (a≥b))
    |_=>none
   else none
 |.str a,.str b=>
  match op with
  |.add=>if ((a.size+b.size:Nat):Int)>IntKind.i64.max then none else some (.str (a++b))
  |.eql=>some (.bool (a.toList==b.toList))
  |.neq=>some (.bool !(a.toList==b.toList))
  |.lss=>some (.bool (Op.bytesLess a.toList b.toList))
  |.leq=>some (.bool (Op.bytesLess a.toList b.toList||a.toList==b.toList))
  |.gtr=>some (.bool !(Op.bytesLess a.toList b.toList||a.toList==b.toList))
  |.geq=>some (.bool !(Op.bytesLess a.toList b.toList))
  |_=>none
 |_,_=>none
def pq:List Nat→List AV→List AV→Option Bool
 |[],[],[]=>some true
 |0::ks,.v _ (.int k a)::xs,.v _ (.int k' b)::ys=>if k=k' then (match pq ks xs ys with|some r=>some (a==b&&r)|none=>none) else none
 |1::ks,.v _ (.bool a)::xs,.v _ (.bool b)::ys=>(match pq ks xs ys with|some r=>some (a==b&&r)|none=>none)
 |2::ks,.v _ (.str a)::xs,.v _ (.str b)::ys=>(match pq ks xs ys with|some r=>some (a.toList==b.toList&&r)|none=>none)
 |_,_,_=>none
def yl (op:UnOp):D→Option D
 |.bool b=>match op with
  |.not=>some (.bool !b)
  |_=>none
 |.int k n=>match op with
  |.neg=>some (.int k (k.wrap (0-n)))
  |_=>none
 |_=>none
inductive PX where
 |t (n:Nat)
 |c (a:AV)
 deriving Inhabited
inductive aD where
 |mv (x:PX)
 |pick (c a b:PX)
 |bin (op:BinOp) (x y:PX)
 |eqs (neg:Bool) (ks:List Nat) (x y:PX)
 |kK (neg:Bool) (x y:PX)
 |un (op:UnOp) (x:PX)
 |len (x:PX)
 |lens (x:PX)
 |box (n:Nat) (x:PX)
 |alloc (cs:List AV)
 |build (z:List AV) (ps:List (Nat×Nat×PX))
 |cu (sz:Nat) (z:List D) (n:Nat) (ps:List (Nat×PX))
 |gR (sz bytes:Nat) (z:List D) (x:PX)
 |ld (agg:Bool) (n:Nat) (x:PX)
 |st (n:Nat) (x y:PX)
 |qp (n:Nat) (x y:PX)
 |r7 (x:PX) (off:Nat)
 |oj (x:PX)
 |iq (x:PX) (off:Nat)
 |mz (sz:Nat) (x i:PX)
 |rA (sz:Nat) (x:PX) (lo hi:Option PX)
 |tm (x:PX) (lo hi:Option PX)
 |ext (x:PX) (k:Nat)
 |call (f:Nat) (io:List Nat) (args:List PX)
 |app (sz bytes:Nat) (x y:PX)
 |oT (k:IntKind) (x:PX)
 |ph (x:PX)
 |uT (x:PX)
 |idx (x i:PX)
 |mn (x y:PX)
 |mx (x y:PX)
 |sX (g:Nat) (x:PX)
 |mf (x:PX) (args:List PX)
 |mP (sz bytes:Nat) (x y:PX)
 |apps (x y:PX)
 |jO (f i:Nat) (args:List PX)
 |oS (sz:Nat) (z:List D) (x:PX)
 |kZ (f:Nat) (x y:PX)
 deriving Inhabited
structure PO where
 dst:Option Nat
 op:aD
 g:Option (Nat×Bool):=none
 deriving Inhabited
abbrev AL:=List (Nat×AV×Option Rt)
inductive PC where
 |ext (calls:AL→Option (List (Nat×List V×V))) (f:AL→Option AL)
 |skip
 |dp (live:List Nat) (ai:List (Nat×Nat)) (ops:List PO) (draw:Option (List (Nat×Nat)))
 |seq (a b:PC)
 |cond (x:PX) (a b:PC)
 |aA (id:Nat) (c:PC)
 |loop (c:PC)
 |exit (id:Nat)
 |ret
 deriving Inhabited
inductive PR where
 |s (n:Nat)
 |b (n size:Nat) (agg:Bool)
 deriving Inhabited
structure PF where
 res:List PR
 io:List Nat
 body:PC
 deriving Inhabited
structure St where
 av:Nat→AV
 ms:Ms
def St.ev (S:St):PX→AV
 |.t n=>S.av n
 |.c a=>a
def AL.get:AL→Nat→AV×Option Rt
 |[],_=>(.un,none)
 |(k,x)::l,n=>if n=k then x else AL.get l n
def AL.st (L:AL):St:={ av:=fun n=>(L.get n).1,ms:=fun n=>((L.get n).2,[]) }
def rz:List C→Option (List D)
 |[]=>some []
 |.ro k d::cs=>if k||d.bC then match rz cs with
   |some ds=>some (d::ds)
   |none=>none
  else none
 |_::_=>none
def p7:List C→Option (List D)
 |[]=>some []
 |.ro k d::cs=>if k||d.bC then match p7 cs with
   |some ds=>some (d::ds)
   |none=>none
  else none
 |.own d::cs=>match p7 cs with
   |some ds=>some (d::ds)
   |none=>none
 |_::_=>none
def kF (m:Ms):AV→Option C
 |.v _ .dead=>none
 |.v k d=>some (.ro k d)
 |.nl sz=>some (.ro false (.sl sz []))
 |.pl r j p=>match m.at r j p with
  |some (.sl sz es)=>some (.ro true (.sl sz es))
  |_=>none
 |.rg r j p sz lo hi=>match rZ (m.at r j p) sz lo hi with
  |some es=>some (.ro true (.sl sz es))
  |none=>none
 |.fv f r=>match (m r).1 with
  |some (.bx cs)=>match rz cs with
   |some (d::ds)=>some (.ro true (.fn f (d::ds)))
   |_=>none
  |_=>none
 |.bx r 0=>match (m r).1 with
  |some (.bx cs)=>match p7 cs with
   |some (d::ds)=>some (.ro true (.rp (d::ds)))
   |_=>none
  |_=>none
 |_=>none
def kG (m:Ms):List AV→Option (List C)
 |[]=>some []
 |a::as=>match kF m a with
  |some c=>match kG m as with
   |some cs=>some (c::cs)
   |none=>none
  |none=>none
def xi (m:Ms):AV→Option C
 |.v _ .dead=>none
 |.v k d=>some (.ro k d)
 |.nl sz=>some (.ro false (.sl sz []))
 |.pl r j p=>match m.at r j p with
  |some (.sl sz es)=>some (.own (.sl sz es))
  |_=>none
 |_=>none
def xj (m:Ms):List AV→Option (List C)
 |[]=>some []
 |a::as=>match xi m a with
  |some c=>match xj m as with
   |some cs=>some (c::cs)
   |none=>none
  |none=>none
def C.bg:C→Bool
 |.rf ..=>false
 |_=>true
def ji (m:Ms) (io:Bool):AV→Option V
 |.agg cs=>match (if io then xj m cs else kG m cs) with
  |some l=>some (.st l)
  |none=>none
 |a=>match (if io then xi m a else kF m a) with
  |some c=>some (.one c)
  |none=>none
def dP (m:Ms) (io:List Nat):Nat→List AV→Option (List V)
 |_,[]=>some []
 |i,a::as=>match ji m (io.contains i) a with
  |some x=>match dP m io (i+1) as with
   |some xs=>some (x::xs)
   |none=>none
  |none=>none
def AV.xl:AV→Bool
 |.pl ..|.rg ..|.fv ..|.bx ..=>true
 |_=>false
def AV.xk:AV→Bool
 |.fv ..|.bx ..=>true
 |_=>false
def AV.kL:AV→Bool
 |.agg cs=>cs.any AV.xk
 |a=>a.xk
def AV.lent:AV→Bool
 |.agg cs=>cs.any AV.xl
 |a=>a.xl
def ek (io:List Nat):Nat→List AV→Bool
 |_,[]=>false
 |i,a::as=>(!io.contains i&&a.lent)||ek io (i+1) as
def C.bp:C→Bool
 |.ro k d=>!k||d.bC
 |.own _=>true
 |.rf ..=>false
def V.p8:V→Bool
 |.one c=>c.bp
 |.st cs|.ptr cs=>cs.all C.bp
 |_=>false
def V.bp:V→Bool
 |.bu vs=>vs.all V.p8
 |x=>x.p8
def V.ry:V→Bool
 |.one c=>c.bg
 |.st cs=>cs.all C.bg
 |_=>false
def V.plain:V→Bool
 |.bu vs=>vs.all V.ry
 |.ptr cs=>cs.all C.bg
 |x=>x.ry
def V.flat:V→List C
 |.one c=>[c]
 |.st cs=>cs
 |_=>[]
def mA (d n:Nat):List C→List AV
 |[]=>[]
 |c::cs=>kt d n c::mA d (n+1) cs
def sS (d n:Nat):V→AV
 |.one c=>kt d n c
 |.st cs=>.agg (mA d n cs)
 |_=>.un
def mB (d:Nat):Nat→List V→List AV
 |_,[]=>[]
 |n,x::xs=>sS d n x::mB d (n+x.flat.length) xs
def C.dn:C→Bool
 |.own d=>!d.bC
 |_=>false
def IM (cs:List C):Option Rt:=if cs.any C.dn then some (.aR cs) else none
def imp (d:Nat):V→AV×Option Rt
 |.ptr cs=>(.bx d 0,some (.bx cs))
 |.bu xs=>(.bu (mB d 0 xs),IM (xs.flatMap V.flat))
 |x=>(sS d 0 x,IM x.flat)
def pZ (j:Nat) (p:aI):Nat→List (Nat×aI)
 |0=>[]
 |n+1=>(j,p++[(0,n)])::pZ j p n
def gS (m:Ms):AV→Option (V×Ms)
 |.agg cs=>match eX m cs with
  |some (l,m')=>some (.st l,m')
  |none=>none
 |a=>match eo m a with
  |some (c,m')=>some (.one c,m')
  |none=>none
def oB (m:Ms) (c:C):AV→Option Ms
 |.pl r j p=>match c with
  |.own (.sl sz es)=>match m.at r j p with
   |some .dead=>m.putAt r j p (.sl sz es) (pZ j p sz)
   |_=>none
  |_=>none
 |.nl _=>match c with
  |.own (.sl _ [])=>some m
  |_=>none
 |_=>none
def jH (cs:List AV):Nat→Ms→List (Nat×Nat×C)→Option Ms
 |_,m,[]=>some m
 |lo,m,(i,j,c)::l=>if i=0∧lo≤j then match cs[j]? with
  |some a=>match oB m c a with
   |some m'=>jH cs (j+1) m' l
   |none=>none
  |none=>none
  else none
def jm (es:List (List D)):Bool:=es.all fun e=>e.all D.bC
def AV.isVal:AV→Bool
 |.un|.bu _|.v _ .dead=>false
 |_=>true
def tY (z:List AV):List (Nat×Nat×AV)→Option (List AV)
 |[]=>some z
 |(off,n,a)::l=>if a.cells.length=n∧off+n≤z.length∧a.isVal=true then tY (ic z off a.cells) l else none
def chunks (sz:Nat):Nat→List D→List (List D)
 |0,_=>[]
 |n+1,l=>l.take sz::chunks sz n (l.drop sz)
def mX (m:Ms) (sz:Nat) (l:List D):List (Nat×AV)→Option (List D×Ms)
 |[]=>some (l,m)
 |(off,a)::r=>match eX m a.cells with
  |some (cs,m')=>match qq cs with
   |some ds=>if ds.length=sz∧off+sz≤l.length then mX m' sz (ic l off ds) r else none
   |none=>none
  |none=>none
def C.gz:C→Bool
 |.ro ..=>true
 |_=>false
def AV.oq (m:Ms):AV→Option (Nat×List C)
 |.bx r 0=>match (m r).1 with
  |some (.bx cs)=>if cs.all C.bg then some (r,cs) else none
  |_=>none
 |_=>none
def V.uv:V→Bool
 |.ptr _=>false
 |_=>true
def o8:Nat→List (Nat×Nat×C)→Option (List C)
 |_,[]=>some []
 |n,(i,j,c)::us=>if i=0∧j=n∧c.bg=true then match o8 (n+1) us with
    |some cs=>some (c::cs)
    |none=>none
  else none
def nU (r:Nat):Nat→List (Nat×aI)
 |0=>[]
 |n+1=>(n,[])::nU r n
mutual
def AV.refs:AV→List Nat
 |.pl r _ _=>[r]
 |.rg r _ _ _ _ _=>[r]
 |.bx r _=>[r]
 |.ad r _ _ _ _ _=>[r]
 |.fv _ r=>[r]
 |.agg cs=>AV.b9 cs
 |.bu cs=>AV.b9 cs
 |_=>[]
def AV.b9:List AV→List Nat
 |[]=>[]
 |a::as=>a.refs++AV.b9 as
end
def tO (m:Ms) (r0:Nat) (rest:List AV) (cs bw:List C):Option Ms:=
 if cs.all C.gz&&bw.all C.gz then some (aB m r0 (some (.bx bw),(m r0).2))
 else if rest.all (fun a=>!a.refs.contains r0) then some (aB m r0 (some (.bx bw),nU r0 cs.length++(m r0).2)) else none
abbrev Env:=Nat→List V→Option (V×List (Nat×Nat×C))
def rB (s:ByteArray):List (List D):=s.toList.map fun b=>[.int .u8 b.toNat]
def pf:List (List D)→Option (List UInt8)
 |[]=>some []
 |[.int .u8 n]::l=>match pf l with
  |some bs=>some (UInt8.ofNat n.toNat::bs)
  |none=>none
 |_=>none
def uO (n:Int) (A4:Nat):Option Nat:=if 0≤n∧n≤A4 then some n.toNat else none
def kQ (len:Nat) (ev:PX→AV) (lo hi:Option PX):Option (Nat×Nat):=
 match (match hi with|none=>some len|some x=>match (ev x).asInt with|some n=>uO n len|none=>none) with
 |some h=>match (match lo with|none=>some 0|some x=>match (ev x).asInt with|some n=>uO n h|none=>none) with
  |some l=>some (l,h)
  |none=>none
 |none=>none
def pk:AV→Option C
 |.v _ .dead=>none
 |.v k d=>some (.ro k d)
 |.nl _=>some (.ro false .dead)
 |.pl ..=>some (.ro false .dead)
 |.rg ..=>some (.ro false .dead)
 |_=>none
def mW:List AV→Option (List C)
 |[]=>some []
 |a::as=>match pk a with
  |some c=>match mW as with
   |some cs=>some (c::cs)
   |none=>none
  |none=>none
def tr (m:Ms) (cs:List C):AV→Option Ms
 |.bx r j=>kR m cs (.bx r j)
 |_=>none
def qA (k:Bool):List D→List V
 |[]=>[]
 |d::ds=>[.one (.ro k (.rp (d::ds)))]
def mU:List C:=[.ro false (.int .i64 0),.ro false (.int .i64 0),.own (.sl 3 []),.ro false (.int .i64 0),.ro false (.int .i64 0),.ro false (.int .i64 0),.ro false (.int .i64 0),.ro false (.int .i64 0),.ro false (.int .i64 0),.ro false (.int .i64 0),.ro false (.str ⟨#[]⟩),.own (.sl 7 []),.ro false (.int .i64 0),.own (.sl 1 []),.own (.sl 2 []),.ro false (.int .i64 0),.ro false (.bool false),.ro false (.int .i64 0),.ro false (.int .i64 0),.ro false (.str ⟨#[]⟩),.ro false (.int .i64 0),.ro false (.int .i64 0),.ro false (.int .i64 0),.ro false (.int .i64 0),.ro false (.int .i64 0)]
def aw (Γ:Env) (ev:PX→AV) (d:Nat) (m:Ms):aD→Option (AV×Option Rt×Ms)
 |.mv x=>some (ev x,none,m)
 |.pick c a b=>match (ev c).asBool with
  |some t=>some (if t then ev a else ev b,none,m)
  |none=>none
 |.bin op x y=>match ev x,ev y with
  |.v _ a,.v _ b=>match pe op a b with
   |some r=>some (.v false r,none,m)
   |none=>none
  |_,_=>none
 |.eqs neg ks x y=>match ev x,ev y with
  |.agg xs,.agg ys=>match pq ks xs ys with
   |some r=>some (.v false (.bool (if neg then !r else r)),none,m)
   |none=>none
  |_,_=>none
 |.kK neg x y=>match (ev x).asBool,(ev y).asBool with
  |some a,some b=>some (.v false (.bool (if neg then !(a==b) else a==b)),none,m)
  |_,_=>none
 |.un op x=>match ev x with
  |.v _ a=>match yl op a with
   |some r=>some (.v false r,none,m)
   |none=>none
  |_=>none
 |.len x=>match m.eY (ev x) with
  |some (_,es)=>some (.v false (.int .i64 es.length),none,m)
  |none=>none
 |.lens x=>match ev x with
  |.v _ (.str s)=>some (.v false (.int .i64 s.size),none,m)
  |_=>none
 |.box n x=>match gT m (ev x).cells with
  |some cs=>if cs.length=n then some (.bx d 0,some (.bx cs),m) else none
  |none=>none
 |.alloc zs=>match gT m zs with
  |some cs=>some (.bx d 0,some (.bx cs),m)
  |none=>none
 |.build z ps=>match tY z (ps.map fun x=>(x.1,x.2.1,ev x.2.2)) with
  |some l=>some (.agg l,none,m)
  |none=>none
 |.cu sz z n ps=>match mX m sz z (ps.map fun x=>(x.1,ev x.2)) with
  |some (l,m')=>some (.pl d 0 [],some (.aR [.own (.sl sz (chunks sz n l))]),m')
  |none=>none
 |.gR sz bytes z x=>match (ev x).asInt with
  |some n=>if 0≤n∧n.toNat*bytes≤2^47 then
    some (.pl d 0 [],some (.aR [.own (.sl sz (zH n.toNat z))]),m) else none
  |none=>none
 |.ld agg n x=>match jx m n (ev x) with
  |some l=>if agg then some (.agg l,none,m) else match l with
   |[a]=>some (a,none,m)
   |_=>none
  |none=>none
 |.st n x y=>match eX m (ev y).cells with
  |some (cs,m')=>if cs.length=n then match kR m' cs (ev x) with
    |some o6=>some (.un,none,o6)
    |none=>none
   else none
  |none=>none
 |.qp n x y=>match mW (ev y).cells with
  |some cs=>if cs.length=n then match tr m cs (ev x) with
    |some o6=>some (.un,none,o6)
    |none=>none
   else none
  |none=>none
 |.r7 x off=>match ev x with
  |.agg cs=>match cs[off]? with
   |some a=>some (a,none,m)
   |none=>none
  |_=>none
 |.oj x=>match ev x with
  |.bx r j=>some (.bx r j,none,m)
  |.v k (.rp (d0::ds))=>some (.v k (.rp (d0::ds)),none,m)
  |.ad r j p sz i c=>some (.ad r j p sz i c,none,m)
  |.ra k sz es i c=>some (.ra k sz es i c,none,m)
  |_=>none
 |.iq x off=>match ev x with
  |.bx r j=>some (.bx r (j+off),none,m)
  |.ad r j p sz i c=>some (.ad r j p sz i (c+off),none,m)
  |.ra k sz es i c=>some (.ra k sz es i (c+off),none,m)
  |_=>none
 |.mz sz x i=>match (ev i).asInt with
  |some n=>match ev x with
   |.v k (.sl dQ es)=>if 0≤n∧n<es.length∧dQ=sz then some (.ra k sz es n.toNat 0,none,m) else none
   |.pl r j p=>match m.at r j p with
    |some (.sl dQ es)=>if 0≤n∧n<es.length∧dQ=sz then some (.ad r j p sz n.toNat 0,none,m) else none
    |_=>none
   |.rg r j p dQ lo hi=>match rZ (m.at r j p) dQ lo hi with
    |some es=>if 0≤n∧n<es.length∧dQ=sz then some (.ad r j p sz (lo+n.toNat) 0,none,m) else none
    |none=>none
   |_=>none
  |none=>none
 |.tm x lo hi=>match ev x with
  |.v _ (.str s)=>match kQ s.size ev lo hi with
   |some (l,h)=>some (.v false (.str (s.extract l h)),none,m)
   |none=>none
  |_=>none
 |.rA o7 x lo hi=>match ev x with
  |.v k (.sl sz es)=>match kQ es.length ev lo hi with
   |some (l,h)=>if sz=o7 then some (.v k (.sl sz (cut es l h)),none,m) else none
   |none=>none
  |.nl sz=>match kQ 0 ev lo hi with
   |some _=>some (.nl sz,none,m)
   |none=>none
  |.pl r j p=>match m.at r j p with
   |some (.sl sz es)=>match kQ es.length ev lo hi with
    |some (l,h)=>if sz=o7 then some (.rg r j p sz l h,none,m) else none
    |none=>none
   |_=>none
  |_=>none
 |.ext x k=>match ev x with
  |.bu cs=>match cs[k]? with
   |some a=>some (a,none,m)
   |none=>none
  |_=>none
 |.call f io args=>match io with
  |[]=>match dP m [] 0 (args.map ev) with
   |some xs=>match Γ f xs with
    |some (r,us)=>if r.plain&&(r.bp||!(ek [] 0 (args.map ev))) then
      match us with
      |[]=>some ((imp d r).1,(imp d r).2,m)
      |_=>none
     else none
    |none=>none
   |none=>none
  |_::_=>match args.map ev with
   |[]=>none
   |a0::rest=>match a0.oq m with
    |some (r0,cs0)=>match (if rest.any AV.kL then none else dP m [] 1 rest) with
     |some xs=>match Γ f (.ptr cs0::xs) with
      |some (r,us)=>if r.plain&&r.uv&&((r.bp&&us.all fun u=>u.2.2.bp)||!(ek [] 1 rest)) then match o8 0 us with
        |some bw=>if bw.length=cs0.length∧0<cs0.length then match tO m r0 rest cs0 bw with
          |some m'=>some ((imp d r).1,(imp d r).2,m')
          |none=>none
          else none
        |none=>none
       else none
      |none=>none
     |none=>none
    |none=>match gS m a0 with
    |some (x0,m1)=>match dP m1 [] 1 rest with
     |some xs=>match Γ f (x0::xs) with
      |some (r,us)=>if r.plain&&((r.bp&&us.all fun u=>u.2.2.bp)||!(ek [] 1 rest)) then match jH a0.cells 0 m1 us with
        |some m2=>some ((imp d r).1,(imp d r).2,m2)
        |none=>none
       else none
      |none=>none
     |none=>none
    |none=>none
 |.app sz bytes x y=>match (match m.eY (ev y) with
   |some (s,ys)=>if jm ys then some (s,ys,m) else match eo m (ev y) with
    |some (.own (.sl s1 MG),m1)=>if MG.all (fun e=>e.all D.live) then some (s1,MG,m1) else none
    |_=>none
   |none=>none) with
  |some (s1,ys,m1)=>match eo m1 (ev x) with
   |some (.own (.sl s2 es),m2)=>
    if s1=sz∧s2=sz∧(es.length+ys.length)*bytes≤2^46 then
     some (.pl d 0 [],some (.aR [.own (.sl sz (es++ys))]),m2) else none
   |_=>none
  |none=>none
 |.apps x y=>match ev y with
  |.v _ (.str s)=>match eo m (ev x) with
   |some (.own (.sl 1 es),m2)=>if es.length+s.size≤2^46 then
     some (.pl d 0 [],some (.aR [.own (.sl 1 (es++rB s))]),m2) else none
   |_=>none
  |_=>none
 |.mP sz bytes x y=>match m.eY (ev y) with
  |some (s1,ys)=>if jm ys then match eo m (ev x) with
   |some (.own (.sl s2 es),m2)=>
    if s1=sz∧s2=sz∧(es.length+ys.length)*bytes≤2^46 then
     some (.pl d 0 [],some (.aR [.own (.sl sz (es++ys))]),m2) else none
   |_=>none
   else none
  |none=>none
 |.oT k x=>match ev x with
  |.v _ (.int _ n)=>some (.v false (.int k (k.wrap n)),none,m)
  |_=>none
 |.ph x=>match m.eY (ev x) with
  |some (_,es)=>match pf es with
   |some bs=>some (.v false (.str ⟨bs.toArray⟩),none,m)
   |none=>none
  |none=>none
 |.uT _=>none
 |.idx x i=>match ev x,(ev i).asInt with
  |.v _ (.str s),some n=>if 0≤n then match s.toList[n.toNat]? with
    |some b=>some (.v false (.int .u8 b.toNat),none,m)
    |none=>none
   else none
  |_,_=>none
 |.mn x y=>match ev x,ev y with
  |.v _ (.int k a),.v _ (.int _ b)=>some (.v false (.int k (if b<a then b else a)),none,m)
  |_,_=>none
 |.mx x y=>match ev x,ev y with
  |.v _ (.int k a),.v _ (.int _ b)=>some (.v false (.int k (if a<b then b else a)),none,m)
  |_,_=>none
 |.sX g x=>match ev x with
  |.bx r 0=>some (.fv g r,none,m)
  |_=>none
 |.jO f i args=>match (args.map ev)[i]? with
  |some a0=>match gS m a0 with
   |some (x0,m1)=>match dP m1 [] 0 ((args.map ev).set i (.v false (.bool true))) with
    |some xs=>match Γ f (xs.set i x0) with
     |some (r,_)=>if r.plain&&(r.bp||!(ek [] 0 ((args.map ev).set i (.v false (.bool true))))) then
       some ((imp d r).1,(imp d r).2,m1)
      else none
     |none=>none
    |none=>none
   |none=>none
  |none=>none
 |.oS sz z x=>match ev x with
  |.rg r j p o7 lo hi=>match m.at r j p with
   |some (.sl yj es)=>if yj=sz∧o7=sz∧lo<hi∧hi≤es.length∧z.length=sz∧z.all D.bC=true∧jm ((es.take hi).drop lo)=true then
     (match m.putAt r j p (.sl sz (es.take lo++zH (hi-lo) z++es.drop hi)) [] with
     |some m'=>some (.bu [],none,m')
     |none=>none)
    else none
   |_=>none
  |_=>none
 |.kZ _ x y=>match ev x with
  |.bx r 0=>match (m r).1 with
   |some (.bx _)=>match ev y with
    |.v _ (.int .i64 k)=>match m.at r 12 [] with
     |some (.sl 25 es)=>match m.at r 13 [] with
      |some (.sl 25 ds)=>match (if 0≤k then (es[k.toNat]?:Option (List D)) else none) with
       |some e=>match (e[2]?:Option D) with
        |some (.int .i64 h)=>if 0≤h∧h<ds.length then some (.ad r 13 [] 25 h.toNat 0,none,m) else some (.bx d 0,some (.bx mU),m)
        |_=>none
       |none=>none
      |_=>none
     |_=>none
    |_=>none
   |_=>none
  |_=>none
 |.mf x args=>match ev x with
  |.v k (.fn f ds)=>match dP m [] 0 (args.map ev) with
   |some xs=>match Γ f (xs++qA k ds) with
    |some (r,us)=>if r.plain&&(r.bp||!(ek [] 0 (args.map ev))) then
      match us with
      |[]=>some ((imp d r).1,(imp d r).2,m)
      |_=>none
     else none
    |none=>none
   |none=>none
  |_=>none
def gd (S:St):Option (Nat×Bool)→Option Bool
 |none=>some true
 |some (t,want)=>match S.av t with
  |.v _ (.bool b)=>some (b==want)
  |.bu []=>some false
  |_=>none
def dH (Γ:Env) (o:PO) (S:St):Option St:=
 match gd S o.g with
 |some true=>
  match o.dst with
  |some d=>match aw Γ S.ev d S.ms o.op with
   |some (a,none,m)=>some { av:=aB S.av d a,ms:=m }
   |some (a,some r,m)=>match m d with
    |(none,_)=>some { av:=aB S.av d a,ms:=aB m d (some r,[]) }
    |_=>none
   |none=>none
  |none=>match aw Γ S.ev 0 S.ms o.op with
   |some (_,none,m)=>some { av:=S.av,ms:=m }
   |_=>none
 |some false=>match o.dst with
  |some d=>some { S with av:=aB S.av d (.bu []) }
  |none=>some S
 |none=>none
def ez (Γ:Env):List PO→St→Option St
 |[],S=>some S
 |o::os,S=>match dH Γ o S with
  |some S'=>ez Γ os S'
  |none=>none
def er (ai:List (Nat×Nat)) (r:Nat):Nat:=match ai with
 |[]=>r
 |(a,b)::l=>if r=a then b else er l r
def BM (ai:List (Nat×Nat)) (n:Nat):Option Nat:=match ai with
 |[]=>none
 |(a,b)::l=>if n=b then some a else BM l n
def qo (ai:List (Nat×Nat)) (n:Nat):Nat:=match BM ai n with
 |some a=>a
 |none=>n
def eK (live:List Nat) (ai:List (Nat×Nat)) (r:Nat):Bool:=
 live.contains (er ai r)&&qo ai (er ai r)==r
mutual
def eZ (m:Ms) (live:List Nat) (ai:List (Nat×Nat)):AV→AV
 |.pl r j p=>if (m.bM r j p)||!(eK live ai r) then .un else .pl (er ai r) j p
 |.rg r j p sz lo hi=>if (m.bM r j p)||!(eK live ai r) then .un else .rg (er ai r) j p sz lo hi
 |.bx r j=>if !(eK live ai r) then .un else .bx (er ai r) j
 |.ad r j p sz i c=>if (m.bM r j p)||!(eK live ai r) then .un else .ad (er ai r) j p sz i c
 |.fv f r=>if !(eK live ai r) then .un else .fv f (er ai r)
 |.agg cs=>.agg (k_ m live ai cs)
 |.bu cs=>.bu (k_ m live ai cs)
 |a=>a
def k_ (m:Ms) (live:List Nat) (ai:List (Nat×Nat)):List AV→List AV
 |[]=>[]
 |a::as=>eZ m live ai a::k_ m live ai as
end
def fixC (live:List Nat) (ai:List (Nat×Nat)):C→C
 |.rf r j=>if eK live ai r then .rf (er ai r) j else .ro false .dead
 |c=>c
def qL (live:List Nat) (ai:List (Nat×Nat)):Rt→Rt
 |.aR cs=>.aR (cs.map (fixC live ai))
 |.bx cs=>.bx (cs.map (fixC live ai))
def pY (S:St) (live:List Nat) (ai:List (Nat×Nat)) (n:Nat):Option Rt:=
 if er ai (qo ai n)=n then match (S.ms (qo ai n)).1 with
  |some rt=>some (qL live ai rt)
  |none=>none
 else none
def settle (live:List Nat) (ai:List (Nat×Nat)) (S:St):AL:=
 live.map fun n=>(n,eZ S.ms live ai (S.av n),pY S live ai n)
def aD.bK:aD→List PX
 |.mv x|.un _ x|.len x|.lens x|.box _ x|.gR _ _ _ x|.ld _ _ x|.oj x|.r7 x _|.iq x _|.ext x _|.oT _ x|.ph x|.uT x|.sX _ x|.oS _ _ x=>[x]
 |.pick c a b=>[c,a,b]
 |.bin _ x y|.eqs _ _ x y|.kK _ x y|.st _ x y|.qp _ x y|.mz _ x y|.app _ _ x y|.mP _ _ x y|.apps x y|.idx x y|.mn x y|.mx x y|.kZ _ x y=>[x,y]
 |.alloc zs=>zs.map .c
 |.build _ ps=>ps.map (·.2.2)
 |.cu _ _ _ ps=>ps.map (·.2)
 |.rA _ x lo hi|.tm x lo hi=>x::(lo.toList++hi.toList)
 |.call _ _ args=>args
 |.jO _ _ args=>args
 |.mf x args=>x::args
def aD.reads:aD→List PX
 |.len x|.box _ x|.ld _ _ x|.ph x|.mz _ x _|.rA _ x _ _=>[x]
 |.qp _ x _=>[x]
 |.kZ _ x _=>[x]
 |.oS _ _ x=>[x]
 |.apps x _=>[x]
 |.st _ x y|.app _ _ x y|.mP _ _ x y=>[x,y]
 |.alloc zs=>zs.map .c
 |.cu _ _ _ ps=>ps.map (·.2)
 |.call _ _ args=>args
 |.jO _ _ args=>args
 |.mf _ args=>args
 |_=>[]
def aD.uS:aD→Bool
 |.box ..|.alloc _|.cu ..|.gR ..|.call ..|.jO ..|.kZ ..|.mf ..|.app ..|.mP ..|.apps ..=>true
 |_=>false
def aD.gC:aD→List PX
 |.qp _ x _=>[x]
 |.oS _ _ x=>[x]
 |.jO _ _ args=>args
 |.mP _ _ x _=>[x]
 |.apps x _=>[x]
 |.st _ x y|.app _ _ x y=>[x,y]
 |.cu _ _ _ ps=>ps.map (·.2)
 |.call _ io args=>if io=[] then [] else args
 |_=>[]
def wanted (S:St):Option (Nat×Bool)→Bool
 |none=>true
 |some (t,want)=>match S.av t with
  |.v _ (.bool b)=>b==want
  |_=>false
def fq (S:St) (o:PO):List Nat:=if wanted S o.g then o.op.reads.flatMap fun x=>(S.ev x).refs else []
def dE (S:St) (o:PO):List Nat:=if wanted S o.g then (if o.op.uS then o.dst.toList else [])++o.op.gC.flatMap fun x=>(S.ev x).refs else []
def fD (Γ:Env):List PO→St→List (List Nat×List Nat)
 |[],_=>[]
 |o::os,S=>match dH Γ o S with
  |some S'=>(fq S o,dE S o)::fD Γ os S'
  |none=>[]
def mV (a b:List Nat):Bool:=a.all fun x=>!b.contains x
def ru (fs:List (List Nat×List Nat)) (ps:List (Nat×Nat)):Bool:=
 ps.all fun x=>match fs[x.1]?,fs[x.2]? with
  |some (r1,w1),some (r2,w2)=>mV w1 r2&&mV w2 r1
  |_,_=>false
inductive Out where
 |fail
 |norm (L:AL)
 |exit (id:Nat) (L:AL)
 |ret (L:AL)
 deriving Inhabited
def iter (f:AL→Out):Nat→AL→Out
 |0,_=>.fail
 |n+1,L=>match f L with
  |.norm L'=>iter f n L'
  |o=>o
def gU (Γ:Env) (live:List Nat) (ai:List (Nat×Nat)) (ops:List PO) (draw:Option (List (Nat×Nat))) (L:AL):Out:=
 if (match draw with
  |none=>true
  |some ps=>ps.isEmpty||ru (fD Γ ops L.st) ps) then
  match ez Γ ops L.st with
  |some S=>.norm (settle live ai S)
  |none=>.fail
 else .fail
def rI (Γ:Env):Option (List (Nat×List V×V))→Prop
 |some cs=>∀c∈cs,Γ c.1 c.2.1=some (c.2.2,[])
 |none=>False
open Classical in
noncomputable def bH (Γ:Env) (fuel:Nat):PC→AL→Out
 |.ext calls f,L=>if rI Γ (calls L) then (match f L with
  |some L'=>.norm L'
  |none=>.fail) else .fail
 |.skip,L=>.norm L
 |.dp live ai ops draw,L=>gU Γ live ai ops draw L
 |.seq a b,L=>match bH Γ fuel a L with
  |.norm L'=>bH Γ fuel b L'
  |o=>o
 |.cond x a b,L=>match (L.st.ev x).asBool with
  |some t=>if t then bH Γ fuel a L else bH Γ fuel b L
  |none=>.fail
 |.aA id c,L=>match bH Γ fuel c L with
  |.exit i L'=>if i=id then .norm L' else .exit i L'
  |o=>o
 |.loop c,L=>iter (bH Γ fuel c) fuel L
 |.exit id,L=>.exit id L
 |.ret,L=>.ret L
def ep:Nat→List V→AL
 |_,[]=>[]
 |i,x::xs=>(i,(imp i x).1,(imp i x).2)::ep (i+1) xs
def uA (L:AL):PR→Option AV
 |.s n=>some (L.get n).1
 |.b n size agg=>match jx L.st.ms size (L.get n).1 with
  |some l=>if agg then some (.agg l) else match l with
   |[a]=>some a
   |_=>none
  |none=>none
def uy (L:AL) (m:Ms):List PR→Option (List V×Ms)
 |[]=>some ([],m)
 |r::rs=>match uA L r with
  |some a=>match gS m a with
   |some (x,m')=>match uy L m' rs with
    |some (xs,o6)=>some (x::xs,o6)
    |none=>none
   |none=>none
  |none=>none
def rE (i:Nat):Nat→List C→List (Nat×Nat×C)
 |_,[]=>[]
 |j,c::cs=>if c.dn then (i,j,c)::rE i (j+1) cs else rE i (j+1) cs
def rD (i:Nat):Nat→List C→List (Nat×Nat×C)
 |_,[]=>[]
 |j,c::cs=>(i,j,c)::rD i (j+1) cs
def p9 (xs:List V) (m:Ms):List Nat→Option (List (Nat×Nat×C))
 |[]=>some []
 |i::is=>match (match (m i).1,xs[i]? with
   |some (.aR cs),some x=>if cs.length≤x.flat.length then some (rE i 0 cs) else none
   |some (.bx cs),some (.ptr _)=>some (rD i 0 cs)
   |_,_=>none) with
  |some l=>match p9 xs m is with
   |some l2=>some (l++l2)
   |none=>none
  |none=>none
def ux (m:Ms):AV→Option (V×Ms)
 |.bx r 0=>match (m r).1 with
  |some (.bx cs)=>if cs.all C.bg then some (.ptr cs,aB m r (none,[])) else none
  |_=>none
 |a=>gS m a
def A7 (F:PF) (L:AL):Option (V×Ms):=
 match F.res with
 |[r]=>match uA L r with
  |some a=>ux L.st.ms a
  |none=>none
 |rs=>match uy L L.st.ms rs with
  |some (ys,m)=>some (.bu ys,m)
  |none=>none
def finish (F:PF) (xs:List V) (L:AL):Option (V×List (Nat×Nat×C)):=
 match A7 F L with
 |some (x,m)=>match p9 xs m F.io with
  |some us=>some (x,us)
  |none=>none
 |none=>none
def V.mQ:V→Bool
 |.one c=>c.bg
 |.st cs|.ptr cs=>cs.all C.bg
 |.bu _=>false
noncomputable def prun (Γ:Env) (fuel:Nat) (F:PF) (xs:List V):Option (V×List (Nat×Nat×C)):=
 if xs.all V.mQ&&F.io.all (fun i=>((ep 0 xs).get i).2.isSome) then
  match bH Γ fuel F.body (ep 0 xs) with
  |.ret L|.norm L=>finish F xs L
  |_=>none
 else none
end
def DL:List D→List D→Bool
 |[.int _ t,.int _ n,.str s],[.int _ t',.int _ n',.str s']=>if t=t' then (if n=n' then Op.bytesLess s.toList s'.toList else decide (n<n')) else decide (t<t')
 |_,_=>false
def NC (x y:List D):Int:=if DL x y=true then -1 else if DL y x=true then 1 else 0
def Vq:List D→Bool
 |[.int .i64 _,.int .i64 _,.str _]=>true
 |_=>false
def UB (es:List (List D)):List (List D):=es.mergeSort fun x y=>!DL y x
def abr:AL→Option (List (Nat×List V×V))
 |[(0,.pl 0 0 [],some (.aR [.own (.sl 3 es)])),(1,.v _ (.fn g []),none)]=>
  if es.all Vq=true∧es.length<4611686018427387904 then
   some (es.flatMap fun x=>es.map fun y=>(g,[.st (x.map (.ro false)),.st (y.map (.ro false))],.one (.ro false (.int .i64 (NC x y)))))
  else none
 |_=>none
def abt:AL→Option AL
 |[(0,.pl 0 0 [],some (.aR [.own (.sl 3 es)])),(1,.v k (.fn g []),none)]=>
  some [(0,.pl 0 0 [],some (.aR [.own (.sl 3 (UB es))])),(1,.v k (.fn g []),none)]
 |_=>none
def R9:List (Nat×Nat):=[(1,189),(8,134),(9,95),(10,102),(12,131),(13,54),(14,63),(15,56),(16,135),(19,184),(20,30),(21,23),(22,133),(27,141),(29,140),(38,61),(39,27),(45,107),(48,29),(52,183),(54,160),(57,17),(58,139),(59,136),(60,243),(63,161),(67,215),(68,281),(69,179),(70,178),(71,157),(72,156),(73,94),(74,230),(75,290),(76,231),(77,138),(78,216),(79,301),(81,214),(82,132),(83,101),(84,280),(85,279),(86,218),(87,55),(141,15),(142,147),(143,67),(144,222),(145,221),(146,65),(147,148),(148,69),(149,150),(150,71),(151,66),(152,68),(153,284),(154,336),(155,224),(156,220),(157,146),(158,226),(159,285),(160,225),(161,335),(162,282),(163,149),(164,70),(165,283),(166,223),(167,10),(168,85),(169,172),(171,83),(172,87),(173,89),(174,84),(175,86),(176,174),(177,170),(178,175),(179,171),(180,88),(181,173),(182,14),(183,78),(184,165),(186,76),(187,80),(188,82),(189,77),(190,79),(191,168),(192,163),(193,169),(194,164),(195,81),(196,167),(197,166),(198,13),(199,99),(209,182),(210,109),(211,33),(212,197),(213,196),(214,31),(215,35),(216,111),(217,37),(218,32),(219,34),(220,268),(221,329),(222,199),(223,108),(224,201),(225,269),(226,200),(227,328),(228,266),(229,110),(230,36),(231,267),(232,198),(233,6),(234,127),(235,49),(236,209),(237,208),(238,47),(239,128),(240,51),(241,130),(242,53),(243,48),(244,50),(245,276),(246,333),(247,211),(248,207),(249,126),(250,213),(251,277),(252,212),(253,332),(254,274),(255,129),(256,52),(257,275),(258,210),(259,8),(264,118),(265,97),(266,105),(268,112),(269,38),(270,114),(271,40),(296,119),(298,191),(300,24),(301,115),(308,121),(318,41),(319,28),(320,271),(322,204),(323,291),(333,203),(335,154),(336,295),(338,18),(339,120),(340,116),(341,256),(344,155),(347,293),(349,331),(350,330),(353,227),(355,286),(356,288),(357,240),(358,181),(359,238),(360,235),(362,96),(363,180),(368,151),(370,113),(372,202),(374,270),(375,93),(376,177),(377,39),(378,239),(379,90),(380,365),(381,366),(382,292),(383,341),(384,316),(385,342),(387,229),(390,272),(391,273),(392,206),(393,300),(394,340),(395,337),(396,338),(397,228),(398,241),(399,92),(400,287),(401,294),(402,263),(404,242),(411,2),(414,3),(416,4),(420,5),(424,219),(427,7),(428,9),(429,26),(430,25),(431,11),(432,12),(439,16),(440,19),(441,20),(442,21),(443,22),(446,117),(449,137),(450,42),(451,43),(452,44),(453,45),(454,46),(455,57),(456,58),(457,59),(458,60),(459,62),(460,64),(461,104),(462,106),(463,103),(464,72),(465,73),(466,74),(467,75),(471,91),(472,98),(473,100),(477,298),(481,254),(482,122),(483,123),(484,124),(485,125),(486,142),(487,143),(488,144),(489,145),(490,192),(491,193),(492,194),(493,195),(494,185),(495,186),(496,187),(497,188),(498,190),(499,152),(500,153),(501,158),(502,159),(503,162),(504,176),(505,373),(508,377),(511,205),(512,217),(513,257),(514,258),(515,259),(516,260),(517,261),(518,262),(519,264),(520,265),(521,244),(522,245),(523,246),(524,247),(525,248),(526,249),(527,250),(528,251),(529,252),(530,253),(531,255),(532,232),(533,233),(534,234),(535,236),(536,237),(537,278),(538,317),(539,318),(540,319),(541,320),(542,321),(543,322),(544,323),(545,324),(546,325),(547,326),(548,327),(549,302),(550,303),(551,304),(552,305),(553,306),(554,307),(555,308),(556,309),(557,310),(558,311),(559,312),(560,313),(561,314),(562,315),(563,289),(564,296),(565,297),(566,299),(567,334),(568,354),(569,355),(570,356),(571,357),(572,358),(573,359),(574,360),(575,361),(576,362),(577,363),(578,364),(579,343),(580,344),(581,345),(582,346),(583,347),(584,348),(585,349),(586,350),(587,351),(588,352),(589,353),(590,339),(591,374),(592,375),(593,367),(594,368),(595,369),(596,370),(597,371),(598,372),(599,376),(600,378),(601,379),(602,380),(603,381),(604,382),(605,383),(606,384),(607,385),(608,386),(609,387),(610,388),(611,389),(612,390),(613,391),(614,392),(1068,281)]
def jb (n:Nat):FuncId:=(R9.lookup n).getD 0
inductive cM where
 |no|iH|gr
 |own (r j:Nat) (p:aI)
 |box (r:Nat)
def cM.bS:cM→Bool
 |.own ..|.box _=>true
 |_=>false
def kc (k:Bool):cM:=if k then .gr else .iH
structure Gh where
 cl:Nat→cM
 hd:Nat→Nat→aI→Value
 bk:Nat→Nat
inductive RO (w:World) (cl:Nat→cM) (k:Bool):D→Value→Prop
 |int (kd:IntKind) (n:Int):RO w cl k (.int kd n) (.int kd n)
 |bool (b:Bool):RO w cl k (.bool b) (.bool b)
 |str (s:ByteArray):RO w cl k (.str s) (.string s)
 |dead (v:Value):RO w cl k .dead v
 |emp (sz:Nat) (a:Option Addr) (cap:Nat):RO w cl k (.sl sz []) (.slice a 0 cap)
 |sl (sz:Nat) (es:List (List D)) (b off cap:Nat):
   cl b=kc k→(∀e∈es,e.length=sz)→es.length≤cap→
   (∀i j,i<es.length→j<sz→(w.cell? ⟨b,off+i*sz+j,none⟩).isSome)→
   (∀i j e d x,es[i]?=some e→e[j]?=some d→w.cell? ⟨b,off+i*sz+j,none⟩=some x→RO w cl k d x)→
   RO w cl k (.sl sz es) (.slice (some ⟨b,off,none⟩) es.length cap)
 |fn (g:Nat):RO w cl k (.fn g []) (.func (.func (jb g)) #[] #[])
 |uX (g:Nat) (ds:List D) (b:Nat):ds≠[]→cl b=kc k→
   (∀i,i<ds.length→(w.cell? ⟨b,i,none⟩).isSome)→
   (∀i d x,ds[i]?=some d→w.cell? ⟨b,i,none⟩=some x→RO w cl k d x)→
   RO w cl k (.fn g ds) (.func (.func (jb g)) #[] #[.pointer (some ⟨b,0,none⟩)])
 |rp (ds:List D) (b:Nat):ds≠[]→cl b=kc k→
   (∀i,i<ds.length→(w.cell? ⟨b,i,none⟩).isSome)→
   (∀i d x,ds[i]?=some d→w.cell? ⟨b,i,none⟩=some x→RO w cl k d x)→
   RO w cl k (.rp ds) (.pointer (some ⟨b,0,none⟩))
inductive OW (w:World) (g:Gh) (r j:Nat):aI→D→Value→Prop
 |int (p:aI) (kd:IntKind) (n:Int):OW w g r j p (.int kd n) (.int kd n)
 |bool (p:aI) (b:Bool):OW w g r j p (.bool b) (.bool b)
 |str (p:aI) (s:ByteArray):OW w g r j p (.str s) (.string s)
 |dead (p:aI) (v:Value):g.hd r j p=v→OW w g r j p .dead v
 |nil (p:aI) (sz:Nat):g.hd r j p=.slice none 0 0→OW w g r j p (.sl sz []) (.slice none 0 0)
 |sl (p:aI) (sz:Nat) (es:List (List D)) (b off cap:Nat) (vals:Array Value) (E:TypeId):
   g.hd r j p=.slice (some ⟨b,off,none⟩) es.length cap→
   g.cl b=.own r j p→(∀e∈es,e.length=sz)→es.length≤cap→
   w.heap[b]?=some (.cells vals E)→off+cap*sz≤vals.size→
   (∀i c e d x,es[i]?=some e→e[c]?=some d→vals[off+i*sz+c]?=some x→OW w g r j (p++[(i,c)]) d x)→
   OW w g r j p (.sl sz es) (.slice (some ⟨b,off,none⟩) es.length cap)
inductive RC (w:World) (g:Gh) (r j:Nat):C→Value→Prop
 |ro (k:Bool) (d:D) (v:Value):RO w g.cl k d v→RC w g r j (.ro k d) v
 |own (d:D) (v:Value):OW w g r j [] d v→RC w g r j (.own d) v
 |rf (r' j':Nat) (b:Option Addr) (n c:Nat):g.hd (r'+1) j' []=.slice b n c→RC w g r j (.rf r' j') (.slice b n c)
def kE (w:World) (g:Gh) (n:Nat):Rt→Prop
 |.aR cs=>∀j c,cs[j]?=some c→RC w g (n+1) j c (g.hd (n+1) j [])
 |.bx cs=>g.cl (g.bk n)=.box n∧∃vals E,w.heap[g.bk n]?=some (.cells vals E)∧vals.size=cs.length∧
   ∀j c x,cs[j]?=some c→vals[j]?=some x→RC w g (n+1) j c x
def iJ (v:Value) (sz lo hi:Nat):Value:=
 match v with
 |.slice a _ cap=>.slice (if cap=lo then a else a.map (·.add (lo*sz))) (hi-lo) (cap-lo)
 |v=>v
def pb (v:Value) (o:Nat):Value:=
 match v with
 |.slice (some a) _ _=>.pointer (some ⟨a.block,a.off+o,none⟩)
 |_=>.nilIface
inductive RA (w:World) (g:Gh) (m:Ms):AV→Value→Prop
 |un (v:Value):RA w g m .un v
 |v (k:Bool) (d:D) (x:Value):RO w g.cl k d x→RA w g m (.v k d) x
 |nl (sz:Nat):RA w g m (.nl sz) (.slice none 0 0)
 |agg (cs:List AV) (vs:Array Value):cs.length=vs.size→
   (∀(i:Nat) (a:AV) (x:Value),cs[i]?=some a→vs[i]?=some x→RA w g m a x)→RA w g m (.agg cs) (.agg vs)
 |bu (cs:List AV) (vs:Array Value):cs.length=vs.size→
   (∀(i:Nat) (a:AV) (x:Value),cs[i]?=some a→vs[i]?=some x→RA w g m a x)→RA w g m (.bu cs) (.tuple vs)
 |pl (r j:Nat) (p:aI) (b:Option Addr) (n c:Nat):(m.bM r j p=false→Value.slice b n c=g.hd (r+1) j p)→RA w g m (.pl r j p) (.slice b n c)
 |rg (r j:Nat) (p:aI) (sz lo hi:Nat) (b:Option Addr) (n c:Nat):(m.bM r j p=false→Value.slice b n c=iJ (g.hd (r+1) j p) sz lo hi)→
   RA w g m (.rg r j p sz lo hi) (.slice b n c)
 |bx (r j:Nat):RA w g m (.bx r j) (.pointer (some ⟨g.bk r,j,none⟩))
 |ad (r j:Nat) (p:aI) (sz i c b o:Nat):(m.bM r j p=false→Value.pointer (some ⟨b,o,none⟩)=pb (g.hd (r+1) j p) (i*sz+c))→
   RA w g m (.ad r j p sz i c) (.pointer (some ⟨b,o,none⟩))
 |ra (k:Bool) (sz:Nat) (es:List (List D)) (i c b off cap:Nat):
   RO w g.cl k (.sl sz es) (.slice (some ⟨b,off,none⟩) es.length cap)→i<es.length→
   RA w g m (.ra k sz es i c) (.pointer (some ⟨b,off+i*sz+c,none⟩))
 |fv (f r:Nat):RA w g m (.fv f r) (.func (.func (jb f)) #[] #[.pointer (some ⟨g.bk r,0,none⟩)])
structure ee (w w':World):Prop where
 os:w'.os=w.os
 out:w'.output=w.output
 fz:∀a,(w.heap[a.block]?).isSome=true→(w'.heap[a.block]?).isSome=true∧w'.frozen? a=w.frozen? a
 tp:w'.tape=w.tape
 dr:w.drawn≤w'.drawn
theorem ee.refl (w:World):ee w w:=⟨rfl,rfl,fun _ h=>⟨h,rfl⟩,rfl,zF _⟩
theorem ee.trans {w w' uC:World} (h:ee w w') (h':ee w' uC):ee w uC:=⟨h'.os.trans h.os,h'.out.trans h.out,fun a i=>⟨(h'.fz a (h.fz a i).1).1,(h'.fz a (h.fz a i).1).2.trans (h.fz a i).2⟩,h'.tp.trans h.tp,Nat.le_trans h.dr h'.dr⟩
theorem ee.of {w w':World} {b:Nat} (os:w'.os=w.os) (out:w'.output=w.output) (tp:w'.tape=w.tape) (dr:w.drawn≤w'.drawn) (h:∀b',b'≠b→w'.heap[b']?=w.heap[b']?)
 (h1:w.heap[b]?=none∨∃v E,w.heap[b]?=some (.cells v E)) (h2:∃v E,w'.heap[b]?=some (.cells v E)):ee w w':=by
 refine ⟨os,out,fun a i=>?_,tp,dr⟩;by_cases e:a.block=b
 ·obtain ⟨v,E,h2⟩:=h2;refine ⟨by rw [e,h2];rfl,?_⟩;rcases h1 with h1|⟨v',E',h1⟩<;>simp [World.frozen?,e,h1,h2]
 ·refine ⟨by rw [h _ e];exact i,?_⟩;simp [World.frozen?,h _ e]
theorem cell_of {w w':World} {b:Nat} (h:w'.heap[b]?=w.heap[b]?) (o:Nat) (s:Option Nat):w'.cell? ⟨b,o,s⟩=w.cell? ⟨b,o,s⟩:=by
 simp [World.cell?,h]
theorem jP {w:World} {b o:Nat} {vals:Array Value} {E:TypeId} {fz:Nat×Nat} (h:w.heap[b]?=some (.cells vals E fz)):
 w.cell? ⟨b,o,none⟩=vals[o]?:=by simp [World.cell?,h]
theorem pV {i n sz j off cap N:Nat} (hi:i<n) (hj:j<sz) (hc:n≤cap) (hN:off+cap*sz≤N):off+i*sz+j<N:=by
 have h1:(i+1)*sz≤cap*sz:=zm sz (by omega);rw [Nat.succ_mul] at h1;omega
theorem jR {es:List (List D)} {i sz:Nat} {e:List D} (h:∀e∈es,e.length=sz) (he:es[i]?=some e):e.length=sz:=
 h e (List.mem_of_getElem? he)
theorem bj {α:Type} {l:List α} {i:Nat} {x:α} (h:l[i]?=some x):i<l.length:=by
 rcases zr i l.length with hl|hl
 ·exact hl
 ·simp [zI hl] at h
theorem WD {α:Type} {l:Array α} {i:Nat} {x:α} (h:l[i]?=some x):i<l.size:=by
 rcases zr i l.size with hl|hl
 ·exact hl
 ·simp [zq hl] at h
theorem RO.mono {w w':World} {cl cl':Nat→cM} {k k':Bool} {d:D} {v:Value} (h:RO w cl k d v)
 (hb:∀b,cl b=kc k→w'.heap[b]?=w.heap[b]?∧cl' b=kc k'):RO w' cl' k' d v:=by
 induction h with
 |int=>exact .int _ _
 |bool=>exact .bool _
 |str=>exact .str _
 |dead=>exact .dead _
 |emp=>exact .emp _ _ _
 |sl sz es b off cap hc hl cf hs _ ih=>
  have dc:=hb b hc;refine .sl sz es b off cap dc.2 hl cf (fun i j hi hj=>?_) (fun i j e d x he hd hx=>?_)
  ·rw [cell_of dc.1];exact hs i j hi hj
  ·rw [cell_of dc.1] at hx;exact ih i j e d x he hd hx
 |fn=>exact .fn _
 |uX g ds b cg hc hs _ ih=>
  have dc:=hb b hc;refine .uX g ds b cg dc.2 (fun i hi=>?_) (fun i d x hd hx=>?_)
  ·rw [cell_of dc.1];exact hs i hi
  ·rw [cell_of dc.1] at hx;exact ih i d x hd hx
 |rp ds b cg hc hs _ ih=>
  have dc:=hb b hc;refine .rp ds b cg dc.2 (fun i hi=>?_) (fun i d x hd hx=>?_)
  ·rw [cell_of dc.1];exact hs i hi
  ·rw [cell_of dc.1] at hx;exact ih i d x hd hx
theorem OW.mono {w w':World} {g g':Gh} {r j r' j':Nat} {q:aI} {d:D} {v:Value} (h:OW w g r j q d v):
 ∀{q':aI},(∀b ρ,g.cl b=.own r j (q++ρ)→w'.heap[b]?=w.heap[b]?∧g'.cl b=.own r' j' (q'++ρ))→
  (∀ρ,g'.hd r' j' (q'++ρ)=g.hd r j (q++ρ))→OW w' g' r' j' q' d v:=by
 induction h with
 |int=>exact fun _ _=>.int _ _ _
 |bool=>exact fun _ _=>.bool _ _
 |str=>exact fun _ _=>.str _ _
 |dead p v hh=>exact fun _ h2=>.dead _ _ (by have:=h2 [];simp only [zE] at this;rw [this,hh])
 |nil p sz hh=>exact fun _ h2=>.nil _ _ (by have:=h2 [];simp only [zE] at this;rw [this,hh])
 |sl p sz es b off cap vals E hh hc hl cf hv hN _ ih=>
  intro q' h1 h2;have hb:=h1 b [] (by simpa using hc);have KP:=h2 [];simp only [zE] at hb KP;refine .sl q' sz es b off cap vals E (by rw [KP,hh]) hb.2 hl cf (by rw [hb.1];exact hv) hN (fun i c e d x he hd hx=>?_);refine ih i c e d x he hd hx (fun b ρ hb=>?_) (fun ρ=>?_)
  ·have:=h1 b ((i,c)::ρ) (by simpa using hb);simpa using this
  ·have:=h2 ((i,c)::ρ);simpa using this
theorem OW.borrow {w w':World} {g:Gh} {cl':Nat→cM} {r j:Nat} {q:aI} {d:D} {v:Value} (h:OW w g r j q d v)
 (h1:∀b ρ,g.cl b=.own r j (q++ρ)→w'.heap[b]?=w.heap[b]?∧cl' b=.gr):RO w' cl' true d v:=by
 induction h with
 |int=>exact .int _ _
 |bool=>exact .bool _
 |str=>exact .str _
 |dead=>exact .dead _
 |nil=>exact .emp _ _ _
 |sl p sz es b off cap vals E hh hc hl cf hv hN _ ih=>
  have hb:=h1 b [] (by simpa using hc);have Lo:w'.heap[b]?=some (.cells vals E):=by rw [hb.1];exact hv
  refine .sl sz es b off cap hb.2 hl cf (fun i c hi hc=>?_) (fun i c e d x he hd hx=>?_)
  ·rw [jP Lo];have:=pV (off:=off) hi hc cf hN;simp [this]
  ·rw [jP Lo] at hx;refine ih i c e d x he hd hx (fun b ρ hb=>?_);exact h1 b ((i,c)::ρ) (by simpa using hb)
theorem OW.ir {w:World} {g:Gh} {r j:Nat} {p:aI} {sz:Nat} {es:List (List D)} {v:Value} (h:OW w g r j p (.sl sz es) v):
 v=g.hd r j p:=by
 cases h with
 |nil _ _ h=>exact h.symm
 |sl _ _ _ _ _ _ _ _ h=>exact h.symm
theorem OW.slice {w:World} {g:Gh} {r j:Nat} {p:aI} {sz:Nat} {es:List (List D)} {v:Value} (h:OW w g r j p (.sl sz es) v):
 ∃b n c,v=.slice b n c:=by
 cases h with
 |nil=>exact ⟨_,_,_,rfl⟩
 |sl=>exact ⟨_,_,_,rfl⟩
theorem OW.ff {w:World} {g:Gh} {r j:Nat}:∀(p:aI) {q:aI} {d0 d:D} {v:Value},OW w g r j q d0 v→d0.ff p=some d→
 ∃x,OW w g r j (q++p) d x:=by
 intro p;induction p with
 |nil=>intro q d0 d v h hd;simp [D.ff] at hd;subst hd;exact ⟨v,by simpa using h⟩
 |cons s p ih=>
  intro q d0 d v h hd;obtain ⟨i,c⟩:=s;cases d0 with
  |sl sz es=>
   simp only [D.ff] at hd;cases he:es[i]? with
   |none=>simp [he] at hd
   |some e=>
    cases jV:e[c]? with
    |none=>simp [he,jV] at hd
    |some d1=>
     simp [he,jV] at hd;cases h with
     |nil=>simp at he
     |sl _ _ _ b off cap vals E hh hc hl cf hv hN hk=>
      have h1:=jR hl he;have h2:=bj jV;have h3:=pV (off:=off) (bj he) (h1▸h2) cf hN;obtain ⟨x,hx⟩:=ih (hk i c e d1 _ he jV (by simp [h3];rfl)) hd;exact ⟨x,by simpa using hx⟩
  |_=>simp [D.ff] at hd
theorem OW.put {w w':World} {g g':Gh} {r j:Nat}:∀(p:aI) {q:aI} {d0 old y:D} {v:Value},OW w g r j q d0 v→d0.ff p=some old→
 (∀b ρ,g.cl b=.own r j ρ→¬(q++p <+: ρ)→w'.heap[b]?=w.heap[b]?∧g'.cl b=.own r j ρ)→
 (∀ρ,¬(q++p <+: ρ)→g'.hd r j ρ=g.hd r j ρ)→
 (∀x,OW w g r j (q++p) old x→OW w' g' r j (q++p) y x)→OW w' g' r j q (d0.put p y) v:=by
 intro p;induction p with
 |nil=>intro q d0 old y v h hd _ _ hn;simp [D.ff] at hd;subst hd;simpa [D.put] using hn v (by simpa using h)
 |cons s p ih=>
  intro q d0 old y v h hd hb hh hn;obtain ⟨i,c⟩:=s;cases d0 with
  |sl sz es=>
   simp only [D.ff] at hd;cases he:es[i]? with
   |none=>simp [he] at hd
   |some e=>
    cases jV:e[c]? with
    |none=>simp [he,jV] at hd
    |some d1=>
     simp [he,jV] at hd;simp only [D.put,he,jV]
     have dm:¬(q++(i,c)::p <+: q):=by
      intro hp;have:=hp.length_le;simp at this;omega
     cases h with
     |nil=>simp at he
     |sl _ _ _ b off cap vals E bY hc hl cf hv hN hk=>
      have u0:=hb b q hc dm;have Ps:=hh q dm;have hlen:(es.set i (e.set c (d1.put p y))).length=es.length:=by simp
      rw [←hlen];refine .sl q sz _ b off cap vals E (by rw [Ps,bY,hlen]) u0.2 ?_ (by rw [hlen];exact cf) (by rw [u0.1];exact hv) hN ?_
      ·intro e' eI;rcases List.mem_or_eq_of_mem_set eI with h|h
       ·exact hl _ h
       ·subst h;simp;exact jR hl he
      ·intro i' c' e' d' x eI gG hx;by_cases hi:i'=i
       ·subst hi;have ah:=bj he;rw [ze ah] at eI;cases eI;by_cases gZ:c'=c
        ·subst gZ;have QR:=bj jV;rw [ze QR] at gG;cases gG;refine ih (hk i' c' e d1 x he jV hx) hd ?_ ?_ ?_
         ·intro b ρ h1 h2;exact hb b ρ h1 (by simpa using h2)
         ·intro ρ h2;exact hh ρ (by simpa using h2)
         ·intro x hx;have:=hn x (by simpa using hx);simpa using this
        ·rw [zi (by omega)] at gG;refine (hk i' c' e d' x he gG hx).mono (fun b ρ h1=>hb b _ h1 ?_) (fun ρ=>hh _ ?_)
         all_goals
          intro hp;rw [zg,zu] at hp;simp at hp;exact gZ hp.1.symm
       ·rw [zi (by omega)] at eI;refine (hk i' c' e' d' x eI gG hx).mono (fun b ρ h1=>hb b _ h1 ?_) (fun ρ=>hh _ ?_)
        all_goals
         intro hp;rw [zg,zu] at hp;simp at hp;exact hi hp.1.1.symm
  |_=>simp [D.ff] at hd
structure dv where
 g:Gh
 io:List Nat
instance:CoeFun dv (fun _=>Nat→cM):=⟨fun I=>I.g.cl⟩
def yq (I:dv) (i:Nat) (rt:Option Rt) (g:Gh):Prop:=
 match rt with
 |some (.aR _)=>∀j,g.hd (i+1) j []=I.g.hd (i+1) j []
 |some (.bx _)=>g.bk i=I.g.bk i
 |none=>False
structure Rel (w0:World) (cl0:dv) (S:St) (ts:Array Value) (w:World) (g:Gh):Prop where
 av:∀n,RA w g S.ms (S.av n) (ts.getD n undef)
 rt:∀n rt,(S.ms n).1=some rt→kE w g n rt
 ey:∀n r,r∈(S.av n).refs→((S.ms r).1).isSome
 ea:∀(n:Nat) (rt:Rt) (j r j':Nat),(S.ms n).1=some rt→rt.cells[j]?=some (C.rf r j')→∃cs,(S.ms r).1=some (.aR cs)
 bd:∀b,g.cl b≠.no→b<w.heap.size
 sz:w0.heap.size≤w.heap.size
 fr:∀b,b<w0.heap.size→(cl0 b).bS=false→w.heap[b]?=w0.heap[b]?
 im:∀b k,g.cl b=kc k↔cl0 b=kc k
 mi:∀b,b<w0.heap.size→(g.cl b).bS=true→(cl0 b).bS=true
 sd:ee w0 w
 fi:∀i∈cl0.io,yq cl0 i (S.ms i).1 g
theorem xn {as:List AV} {i:Nat} {a:AV} {r:Nat} (h:as[i]?=some a) (hr:r∈a.refs):r∈AV.b9 as:=by
 induction as generalizing i with
 |nil=>simp at h
 |cons b as ih=>
  simp only [AV.b9,zO];cases i with
  |zero=>simp at h;subst h;exact .inl hr
  |succ i=>simp at h;exact .inr (ih h)
theorem RA.mono {w w':World} {g g':Gh} {m m':Ms} {a:AV} {x:Value} (h:RA w g m a x)
 (hb:∀b k,g.cl b=kc k→w'.heap[b]?=w.heap[b]?∧g'.cl b=kc k):
 (∀r∈a.refs,g'.bk r=g.bk r∧∀j p,m'.bM r j p=false→m.bM r j p=false∧g'.hd (r+1) j p=g.hd (r+1) j p)→
 RA w' g' m' a x:=by
 induction h with
 |un=>exact fun _=>.un _
 |v k d x h=>exact fun _=>.v k d x (h.mono fun b hc=>hb b k hc)
 |nl=>exact fun _=>.nl _
 |agg cs vs hl _ ih=>exact fun hr=>.agg cs vs hl fun i a x ha hx=>ih i a x ha hx fun r h=>hr r (by simpa [AV.refs] using xn ha h)
 |bu cs vs hl _ ih=>exact fun hr=>.bu cs vs hl fun i a x ha hx=>ih i a x ha hx fun r h=>hr r (by simpa [AV.refs] using xn ha h)
 |pl r j p b n c h=>exact fun hr=>.pl r j p b n c fun hk=>(by
   have:=(hr r (by simp [AV.refs])).2 j p hk;rw [this.2];exact h this.1)
 |rg r j p sz lo hi b n c h=>exact fun hr=>.rg r j p sz lo hi b n c fun hk=>(by
   have:=(hr r (by simp [AV.refs])).2 j p hk;rw [this.2];exact h this.1)
 |bx r j=>exact fun hr=>(by
   have:=(hr r (by simp [AV.refs])).1;rw [←this];exact .bx r j)
 |ad r j p sz i c b o h=>exact fun hr=>.ad r j p sz i c b o fun hk=>(by
   have:=(hr r (by simp [AV.refs])).2 j p hk;rw [this.2];exact h this.1)
 |ra k sz es i c b off cap h hi=>exact fun _=>.ra k sz es i c b off cap (h.mono fun b hc=>hb b k hc) hi
 |fv f r=>exact fun hr=>(by
   have:=(hr r (by simp [AV.refs])).1;rw [←this];exact .fv f r)
theorem RC.mono {w w':World} {g g':Gh} {r j r' j':Nat} {c:C} {x:Value} (h:RC w g r j c x)
 (hb:∀b k,g.cl b=kc k→w'.heap[b]?=w.heap[b]?∧g'.cl b=kc k)
 (h1:∀b ρ,g.cl b=.own r j ρ→w'.heap[b]?=w.heap[b]?∧g'.cl b=.own r' j' ρ)
 (h2:∀ρ,g'.hd r' j' ρ=g.hd r j ρ) (h3:∀r1 j1,c=C.rf r1 j1→g'.hd (r1+1) j1 []=g.hd (r1+1) j1 []):
 RC w' g' r' j' c x:=by
 cases h with
 |ro k d _ h=>exact .ro k d _ (h.mono fun b hc=>hb b k hc)
 |own d _ h=>exact .own d _ (h.mono (q':=[]) (by simpa using h1) (by simpa using h2))
 |rf r1 j1 b n c hh=>exact .rf r1 j1 b n c (by rw [h3 r1 j1 rfl];exact hh)
theorem kE.mono {w w':World} {g g':Gh} {n:Nat} {rt:Rt} (h:kE w g n rt)
 (hb:∀b k,g.cl b=kc k→w'.heap[b]?=w.heap[b]?∧g'.cl b=kc k)
 (h1:∀b j ρ,g.cl b=.own (n+1) j ρ→w'.heap[b]?=w.heap[b]?∧g'.cl b=.own (n+1) j ρ)
 (hx:∀cs,rt=.bx cs→g'.bk n=g.bk n∧w'.heap[g.bk n]?=w.heap[g.bk n]?∧g'.cl (g.bk n)=g.cl (g.bk n))
 (h2:∀j ρ,g'.hd (n+1) j ρ=g.hd (n+1) j ρ)
 (h3:∀(j r1 j1:Nat),rt.cells[j]?=some (C.rf r1 j1)→g'.hd (r1+1) j1 []=g.hd (r1+1) j1 []):kE w' g' n rt:=by
 cases rt with
 |aR cs=>
  intro j c hc;rw [h2];exact (h j c hc).mono hb (fun b ρ=>h1 b j ρ) (fun ρ=>h2 j ρ) (fun r1 j1 e=>h3 j r1 j1 (by subst e;exact hc))
 |bx cs=>
  obtain ⟨hk,hw,hc⟩:=hx cs rfl;obtain ⟨h4,vals,E,h5,h6,h7⟩:=h;refine ⟨by rw [hk,hc];exact h4,vals,E,by rw [hk,hw];exact h5,h6,fun j c x h8 h9=>?_⟩;exact (h7 j c x h8 h9).mono hb (fun b ρ=>h1 b j ρ) (fun ρ=>h2 j ρ) (fun r1 j1 e=>h3 j r1 j1 (by subst e;exact h8))
def Gh.tk (g:Gh) (r j:Nat) (p:aI) (q:Nat) (v:Value):Gh where
 cl:=fun b=>match g.cl b with
  |.own r1 j1 ρ=>if r1=r+1∧j1=j∧p <+: ρ then .own 0 q (ρ.drop p.length) else .own r1 j1 ρ
  |c=>c
 hd:=fun r1 j1 ρ=>if r1=0∧j1=q then (if ρ=[] then v else g.hd (r+1) j (p++ρ)) else g.hd r1 j1 ρ
 bk:=g.bk
theorem Gh.IJ {g:Gh} {r j:Nat} {p:aI} {q:Nat} {v:Value} {b:Nat} {k:Bool}:(g.tk r j p q v).cl b=kc k↔g.cl b=kc k:=by
 simp only [Gh.tk,kc];cases h:g.cl b<;>simp;split<;>cases k<;>simp
theorem R_ {k:Bool} {r j:Nat} {p:aI}:kc k≠.own r j p:=by cases k<;>simp [kc]
theorem aa4 {k:Bool} {r:Nat}:kc k≠.box r:=by cases k<;>simp [kc]
theorem Gh.Vd {g:Gh} {r j:Nat} {p:aI} {q:Nat} {v:Value} {b:Nat}:((g.tk r j p q v).cl b).bS=(g.cl b).bS:=by
 simp only [Gh.tk];cases h:g.cl b<;>simp only [];split<;>rfl
theorem Gh.Ve {g:Gh} {r j:Nat} {p:aI} {q:Nat} {v:Value} {b:Nat}:(g.tk r j p q v).cl b=.no↔g.cl b=.no:=by
 simp only [Gh.tk];cases h:g.cl b<;>simp;split<;>simp
theorem Gh.IK {g:Gh} {r j:Nat} {p:aI} {q:Nat} {v:Value} {b r1 j1:Nat} {ρ:aI} (h:g.cl b=.own r1 j1 ρ)
 (hn:¬(r1=r+1∧j1=j∧p <+: ρ)):(g.tk r j p q v).cl b=.own r1 j1 ρ:=by
 simp only [Gh.tk,h,if_neg hn]
theorem DJ {m:Ms} {r:Nat} {c:Option Rt} {kl:List (Nat×aI)} {r1 j:Nat} {p:aI}
 (h:Ms.bM (aB m r (c,kl++(m r).2)) r1 j p=false):m.bM r1 j p=false:=by
 simp only [Ms.bM,aB] at h ⊢;split at h
 ·rename_i e;subst e;simp [List.any_append] at h;simp;exact fun a b qM=>h.2 a b qM
 ·exact h
theorem Jo {rt:Rt} {j:Nat} {c:C}:(rt.gB j c).cells=rt.cells.set j c:=by cases rt<;>rfl
theorem kE.put {w w':World} {g g':Gh} {n:Nat} {rt:Rt} {j:Nat} {p:aI} {d0 old y:D} (h:kE w g n rt)
 (hc:rt.cells[j]?=some (.own d0)) (hd:d0.ff p=some old)
 (hb:∀b k,g.cl b=kc k→w'.heap[b]?=w.heap[b]?∧g'.cl b=kc k)
 (h1:∀b j1 ρ,g.cl b=.own (n+1) j1 ρ→¬(j1=j∧p <+: ρ)→w'.heap[b]?=w.heap[b]?∧g'.cl b=.own (n+1) j1 ρ)
 (hx:∀cs,rt=.bx cs→g'.bk n=g.bk n∧w'.heap[g.bk n]?=w.heap[g.bk n]?∧g'.cl (g.bk n)=g.cl (g.bk n))
 (h2:∀j1 ρ,¬(j1=j∧p <+: ρ)→g'.hd (n+1) j1 ρ=g.hd (n+1) j1 ρ)
 (Ow:∀cs,rt=.aR cs→g'.hd (n+1) j []=g.hd (n+1) j [])
 (h3:∀(j r1 j1:Nat),rt.cells[j]?=some (C.rf r1 j1)→g'.hd (r1+1) j1 []=g.hd (r1+1) j1 [])
 (hn:∀x,OW w g (n+1) j p old x→OW w' g' (n+1) j p y x):kE w' g' n (rt.gB j (.own (d0.put p y))):=by
 have key:∀x,RC w g (n+1) j (.own d0) x→RC w' g' (n+1) j (.own (d0.put p y)) x:=by
  intro x hx;cases hx with
  |own d v ho=>
   refine .own _ _ (OW.put p ho hd (fun b ρ h4 h5=>h1 b j ρ h4 (by simpa using h5)) (fun ρ h5=>h2 j ρ (by simpa using h5)) (by simpa using hn))
 cases rt with
 |aR cs=>
  intro j1 c py;simp only [Rt.cells] at hc h3;by_cases e:j1=j
  ·subst e;rw [ze (bj hc)] at py;cases py;rw [Ow cs rfl];exact key _ (h j1 _ hc)
  ·rw [zi (by omega)] at py;rw [h2 j1 [] (by simp [e])];exact (h j1 c py).mono hb (fun b ρ h4=>h1 b j1 ρ h4 (by simp [e])) (fun ρ=>h2 j1 ρ (by simp [e])) (fun r1 j2 e2=>h3 j1 r1 j2 (by subst e2;exact py))
 |bx cs=>
  obtain ⟨hk,hw,O5⟩:=hx cs rfl;obtain ⟨h4,vals,E,h5,h6,h7⟩:=h;simp only [Rt.cells] at hc h3;refine ⟨by rw [hk,O5];exact h4,vals,E,by rw [hk,hw];exact h5,by simpa using h6,fun j1 c x h8 h9=>?_⟩;by_cases e:j1=j
  ·subst e;rw [ze (bj hc)] at h8;cases h8;exact key _ (h7 j1 _ x hc h9)
  ·rw [zi (by omega)] at h8;exact (h7 j1 c x h8 h9).mono hb (fun b ρ h4=>h1 b j1 ρ h4 (by simp [e])) (fun ρ=>h2 j1 ρ (by simp [e])) (fun r1 j2 e2=>h3 j1 r1 j2 (by subst e2;exact h8))
theorem fo {m:Ms} {r j:Nat} {p:aI} {d:D} (h:m.at r j p=some d):
 m.bM r j p=false∧∃rt d0,(m r).1=some rt∧rt.cells[j]?=some (.own d0)∧d0.ff p=some d:=by
 simp only [Ms.at,Ms.cell] at h;split at h
 ·simp at h
 ·rename_i hk;refine ⟨by simpa using hk,?_⟩;cases hm:(m r).1 with
  |none=>simp [hm] at h
  |some rt=>
   simp only [hm] at h;cases hc:rt.cells[j]? with
   |none=>simp [hc] at h
   |some c=>
    cases c with
    |own d0=>simp only [hc] at h;exact ⟨rt,d0,rfl,hc,h⟩
    |_=>simp [hc] at h
theorem Rel.at {w0:World} {cl0:dv} {S:St} {ts:Array Value} {w:World} {g:Gh} (R:Rel w0 cl0 S ts w g)
 {r j:Nat} {p:aI} {d:D} (h:S.ms.at r j p=some d):∃x,OW w g (r+1) j p d x:=by
 obtain ⟨_,rt,d0,h1,h2,h3⟩:=fo h;have h4:=R.rt r rt h1;cases rt with
 |aR cs=>
  have:=h4 j _ h2;generalize g.hd (r+1) j []=v at this;cases this with
  |own _ _ ho=>simpa using ho.ff p h3
 |bx cs=>
  obtain ⟨_,vals,E,_,h6,h7⟩:=h4;have ah:j<vals.size:=by rw [h6];exact bj h2
  have:=h7 j _ vals[j] h2 (by simp [ah]);cases this with
  |own _ _ ho=>simpa using ho.ff p h3
section
theorem tt {m m':Ms} {r j:Nat} {p:aI} {d:D} (h:m.take r j p=some (d,m')):
 ∃sz es rt d0,d=.sl sz es∧m.at r j p=some (.sl sz es)∧(m r).1=some rt∧rt.cells[j]?=some (.own d0)∧d0.ff p=some (.sl sz es)∧
  m'=aB m r (some (rt.gB j (.own (d0.put p .dead))),(m r).2):=by
 simp only [Ms.take] at h;split at h
 ·rename_i sz es ha;obtain ⟨_,rt,d0,h1,h2,h3⟩:=fo ha;simp only [Ms.putAt,h1,h2] at h;simp at h;exact ⟨sz,es,rt,d0,h.1.symm,ha,h1,h2,h3,h.2.symm⟩
 ·simp at h
theorem gL {α:Type} {f:Nat→α} {n:Nat} {x:α}:aB f n x n=x:=by simp [aB]
theorem eL {α:Type} {f:Nat→α} {n k:Nat} {x:α} (h:k≠n):aB f n x k=f k:=by simp [aB,h]
theorem abo {rt:Rt} {j:Nat} {c:C} {cs:List C} (h:rt=.aR cs):∃kI,rt.gB j c=.aR kI:=by subst h;exact ⟨_,rfl⟩
section
variable {w0:World} {cl0:dv} {S:St} {ts:Array Value} {w:World} {g:Gh}
theorem yg {m:Ms} {r:Nat} {rt':Rt} {kl:List (Nat×aI)} {k:Nat} (h:((m k).1).isSome):((aB m r (some rt',kl) k).1).isSome:=by
 by_cases e:k=r
 ·subst e;simp [aB]
 ·simpa [aB,e] using h
theorem L1 {m:Ms} {r j:Nat} {rt:Rt} {c0:C} {kl:List (Nat×aI)} (bP:(m r).1=some rt) (hc:∀r' j',c0≠.rf r' j')
 (H:∀(n:Nat) (rt:Rt) (j r j':Nat),(m n).1=some rt→rt.cells[j]?=some (C.rf r j')→∃cs,(m r).1=some (.aR cs)):
 ∀(n:Nat) (bX:Rt) (j1 r1 AS:Nat),(aB m r (some (rt.gB j c0),kl) n).1=some bX→bX.cells[j1]?=some (C.rf r1 AS)→
  ∃cs,(aB m r (some (rt.gB j c0),kl) r1).1=some (.aR cs):=by
 intro n bX j1 r1 AS h1 h2
 have:∃cs,(m r1).1=some (.aR cs):=by
  by_cases e:n=r
  ·subst e;simp [aB] at h1;subst h1;rw [Jo] at h2;by_cases e2:j1=j
   ·subst e2;rcases zr j1 rt.cells.length with hl|hl
    ·rw [ze hl] at h2;cases h2;exact absurd rfl (hc _ _)
    ·rw [zI (by simpa using hl)] at h2;cases h2
   ·rw [zi (by omega)] at h2;exact H n rt j1 r1 AS bP h2
  ·simp [aB,e] at h1;exact H n bX j1 r1 AS h1 h2
 obtain ⟨cs,h3⟩:=this;by_cases e:r1=r
 ·subst e;rw [bP] at h3;cases h3;exact ⟨cs.set j c0,by simp [aB,Rt.gB]⟩
 ·exact ⟨cs,by simpa [aB,e] using h3⟩
theorem Rel.take (R:Rel w0 cl0 S ts w g) {r j:Nat} {p:aI} {d:D} {m':Ms} (ht:S.ms.take r j p=some (d,m')) (q:Nat) (v:Value):
 Rel w0 cl0 { S with ms:=m' } ts w (g.tk r j p q v):=by
 obtain ⟨sz,es,rt,d0,rfl,ha,h1,h2,h3,rfl⟩:=tt ht;have de:∀b k,g.cl b=kc k→w.heap[b]?=w.heap[b]?∧(g.tk r j p q v).cl b=kc k:=fun b k h=>⟨rfl,Gh.IJ.2 h⟩
 have bY:∀n j1 ρ,(g.tk r j p q v).hd (n+1) j1 ρ=g.hd (n+1) j1 ρ:=fun n j1 ρ=>by simp [Gh.tk]
 refine { av:=fun n=>?_,rt:=fun n bX h4=>?_,ey:=fun n r1 h4=>yg (R.ey n r1 h4),ea:=L1 h1 (by simp) R.ea,
          bd:=fun b h4=>R.bd b (by rwa [ne_eq,Gh.Ve] at h4),sz:=R.sz,fr:=R.fr,im:=fun b k=>Gh.IJ.trans (R.im b k),
          mi:=fun b h4 h5=>R.mi b h4 (by rwa [Gh.Vd] at h5),sd:=R.sd,
          fi:=fun i hi=>?_ }
 rotate_left 2
 ·have h4:=R.fi i hi;by_cases e:i=r
  ·subst e;rw [h1] at h4;simp only [aB,if_true];cases rt with
   |aR cs=>exact fun j1=>(bY _ _ _).trans (h4 j1)
   |bx cs=>exact h4
  ·simp only [eL e];revert h4;cases (S.ms i).1 with
   |none=>exact id
   |some bX=>
    cases bX with
    |aR cs=>exact fun h4 j1=>(bY _ _ _).trans (h4 j1)
    |bx cs=>exact id
 ·refine (R.av n).mono de (fun r1 _=>⟨rfl,fun j1 p1 h4=>⟨?_,bY _ _ _⟩⟩);exact DJ (m:=S.ms) (kl:=[]) (by simpa using h4)
 ·by_cases e:n=r
  ·subst e;simp [aB] at h4;subst h4
   refine (R.rt n rt h1).put h2 h3 de (fun b j1 ρ h5 h6=>⟨rfl,Gh.IK h5 (by simpa using h6)⟩) (fun cs _=>⟨rfl,rfl,?_⟩)
    (fun j1 ρ _=>bY _ _ _) (fun _ _=>bY _ _ _) (fun _ _ _ _=>bY _ _ _) (fun x hx=>.dead _ _ ((bY _ _ _).trans hx.ir.symm))
   have:=R.rt n rt h1;rename_i oV;subst oV;simp only [Gh.tk,this.1]
  ·simp only [eL e] at h4
   refine (R.rt n bX h4).mono de (fun b j1 ρ h5=>⟨rfl,Gh.IK h5 (by simp [e])⟩) (fun cs hb=>⟨rfl,rfl,?_⟩)
    (fun j1 ρ=>bY _ _ _) (fun _ _ _ _=>bY _ _ _)
   have:=R.rt n bX h4;subst hb;simp only [Gh.tk,this.1]
theorem Rel.Vf (R:Rel w0 cl0 S ts w g) {r j:Nat} {p:aI} {d:D} {m':Ms} (ht:S.ms.take r j p=some (d,m')) (q:Nat):
 OW w (g.tk r j p q (g.hd (r+1) j p)) 0 q [] d (g.hd (r+1) j p):=by
 obtain ⟨sz,es,rt,d0,rfl,ha,h1,h2,h3,rfl⟩:=tt ht;obtain ⟨x,hx⟩:=R.at ha;have w_:=hx.ir;subst w_;refine hx.mono (fun b ρ h=>⟨rfl,?_⟩) (fun ρ=>?_)
 ·simp [Gh.tk,h]
 ·simp only [Gh.tk,List.nil_append,and_self,if_true];split
  ·rename_i e;subst e;simp
  ·rfl
theorem Rel.Vg (R:Rel w0 cl0 S ts w g) {r j:Nat} {p:aI} {sz:Nat} {es:List (List D)} {m':Ms} (ht:S.ms.take r j p=some (.sl sz es,m')) (q hi:Nat)
 (ni:hi≤es.length):
 OW w (g.tk r j p q (iJ (g.hd (r+1) j p) sz 0 hi)) 0 q [] (.sl sz (es.take hi)) (iJ (g.hd (r+1) j p) sz 0 hi):=by
 obtain ⟨yj,uW,rt,d0,e1,ha,h1,h2,h3,rfl⟩:=tt ht;cases e1;obtain ⟨x,hx⟩:=R.at ha;have w_:=hx.ir;subst w_;generalize hv:g.hd (r+1) j p=v at hx;cases hx with
 |nil=>
  simp only [iJ,List.take_nil];have:hi=0:=by simpa using ni
  subst this;refine .nil _ _ (by simp [Gh.tk])
 |sl _ _ _ b off cap vals E hh hc hl cf hw hN hk=>
  have hlen:(es.take hi).length=hi:=by simp;omega
  have uk:iJ (.slice (some ⟨b,off,none⟩) es.length cap) sz 0 hi=.slice (some ⟨b,off,none⟩) (es.take hi).length cap:=by
   simp only [iJ,Nat.zero_mul,Nat.sub_zero,hlen];split<;>simp [Addr.add]
  rw [uk];refine .sl _ _ _ b off cap vals E (by simp [Gh.tk]) (by simp [Gh.tk,hc]) (fun e he=>hl e (zt he)) (by omega) hw hN ?_;intro i c e d x he hd hx
  have eI:es[i]?=some e:=by
   rw [zf] at he;split at he
   ·exact he
   ·cases he
  refine (hk i c e d x eI hd hx).mono (fun b ρ h=>⟨rfl,?_⟩) (fun ρ=>?_)
  ·simp [Gh.tk,h]
  ·simp [Gh.tk]
structure eV (N:Nat→Prop) (g:Gh) (m:Ms) (g':Gh) (m':Ms):Prop where
 kc:∀b k,g'.cl b=kc k↔g.cl b=kc k
 hd:∀n j ρ,g'.hd (n+1) j ρ=g.hd (n+1) j ρ
 bk:g'.bk=g.bk
 kl:∀r,(m' r).2=(m r).2
 cl0:∀b q ρ,¬N q→g.cl b=.own 0 q ρ→g'.cl b=.own 0 q ρ
 g9:∀q ρ,¬N q→g'.hd 0 q ρ=g.hd 0 q ρ
 so:∀r,((m r).1).isSome→((m' r).1).isSome
 no:∀r,(m r).1=none→(m' r).1=none
 bx:∀b r,g.cl b=.box r→g'.cl b=.box r
theorem eV.refl (N:Nat→Prop) (g:Gh) (m:Ms):eV N g m g m:=
 ⟨fun _ _=>.rfl,fun _ _ _=>rfl,rfl,fun _=>rfl,fun _ _ _ _ h=>h,fun _ _ _=>rfl,fun _ h=>h,fun _ h=>h,fun _ _ h=>h⟩
theorem eV.tD {N N':Nat→Prop} {g g':Gh} {m m':Ms} (h:eV N g m g' m') (hN:∀q,N q→N' q):eV N' g m g' m':=
 ⟨h.kc,h.hd,h.bk,h.kl,fun b q ρ hq=>h.cl0 b q ρ fun e=>hq (hN q e),fun q ρ hq=>h.g9 q ρ fun e=>hq (hN q e),h.so,h.no,h.bx⟩
theorem eV.trans {N:Nat→Prop} {g g1 g2:Gh} {m m1 m2:Ms} (h:eV N g m g1 m1) (h':eV N g1 m1 g2 m2):eV N g m g2 m2:=
 ⟨fun b k=>(h'.kc b k).trans (h.kc b k),fun n j ρ=>(h'.hd n j ρ).trans (h.hd n j ρ),h'.bk.trans h.bk,fun r=>(h'.kl r).trans (h.kl r),
  fun b q ρ fa hb=>h'.cl0 b q ρ fa (h.cl0 b q ρ fa hb),fun q ρ fa=>(h'.g9 q ρ fa).trans (h.g9 q ρ fa),
  fun r hr=>h'.so r (h.so r hr),fun r hr=>h'.no r (h.no r hr),fun b r hb=>h'.bx b r (h.bx b r hb)⟩
theorem eV.ra {N:Nat→Prop} {g g':Gh} {m m':Ms} {w:World} (h:eV N g m g' m') {a:AV} {x:Value} (ha:RA w g m a x):RA w g' m' a x:=
 ha.mono (fun b k hb=>⟨rfl,(h.kc b k).2 hb⟩) (fun r _=>⟨by rw [h.bk],fun j p hk=>⟨by simpa only [Ms.bM,h.kl] using hk,h.hd _ _ _⟩⟩)
theorem eV.rc {N:Nat→Prop} {g g':Gh} {m m':Ms} {w:World} (h:eV N g m g' m') {q:Nat} (hq:¬N q) {c:C} {x:Value} (ha:RC w g 0 q c x):RC w g' 0 q c x:=
 ha.mono (fun b k hb=>⟨rfl,(h.kc b k).2 hb⟩) (fun b ρ hb=>⟨rfl,h.cl0 b q ρ hq hb⟩) (fun ρ=>h.g9 q ρ hq) (fun _ _ _=>h.hd _ _ _)
theorem eV.ow {N:Nat→Prop} {g g':Gh} {m m':Ms} {w:World} (h:eV N g m g' m') {q:Nat} (hq:¬N q) {c:D} {x:Value} (ha:OW w g 0 q [] c x):OW w g' 0 q [] c x:=
 ha.mono (fun b ρ hb=>⟨rfl,h.cl0 b q _ hq hb⟩) (fun ρ=>h.g9 q _ hq)
theorem eV.tk {m:Ms} {r j:Nat} {p:aI} {d:D} {m':Ms} (ht:m.take r j p=some (d,m')) (g:Gh) (q:Nat) (v:Value):eV (·=q) g m (g.tk r j p q v) m':=by
 obtain ⟨sz,es,rt,d0,rfl,ha,h1,h2,h3,rfl⟩:=tt ht
 refine ⟨fun _ _=>Gh.IJ,fun n j1 ρ=>by simp [Gh.tk],rfl,fun r1=>?_,fun b q1 ρ hq hb=>Gh.IK hb (by simp),fun q1 ρ hq=>?_,
  fun r1 h=>yg h,fun r1 h=>?_,fun b r1 hb=>by simp [Gh.tk,hb]⟩
 ·by_cases e:r1=r
  ·subst e;simp [aB]
  ·simp [aB,e]
 ·simp [Gh.tk,hq]
 ·by_cases e:r1=r
  ·subst e;rw [h1] at h;cases h
  ·simpa [aB,e] using h
theorem yQ {d:Option D} {sz lo hi:Nat} {es:List (List D)} (h:rZ d sz lo hi=some es):
 ∃mh,d=some (.sl sz mh)∧lo≤hi∧hi≤mh.length∧es=(mh.take hi).drop lo:=by
 unfold rZ at h;split at h
 ·split at h
  ·rename_i hh;obtain ⟨h1,h2,h3⟩:=hh;subst h1;exact ⟨_,rfl,h2,h3,by simpa using h.symm⟩
  ·cases h
 ·cases h
theorem uJ {S:St} (R:Rel w0 cl0 S ts w g) {a:AV} {c:C} {x:Value} {m':Ms} (ha:RA w g S.ms a x) (h:eo S.ms a=some (c,m')) (q:Nat):
 ∃g',Rel w0 cl0 { S with ms:=m' } ts w g'∧eV (·=q) g S.ms g' m'∧RC w g' 0 q c x:=by
 unfold eo at h;split at h
 ·cases h
 ·rename_i k d _;simp at h;obtain ⟨rfl,rfl⟩:=h;cases ha with
  |v _ _ _ hr=>exact ⟨g,R,.refl _ _ _,.ro _ _ _ hr⟩
 ·rename_i sz;simp at h;obtain ⟨rfl,rfl⟩:=h;cases ha with
  |nl=>
   refine ⟨{ g with hd:=fun r1 j1 ρ=>if r1=0∧j1=q then .slice none 0 0 else g.hd r1 j1 ρ },?_,⟨fun _ _=>.rfl,fun n j ρ=>by simp,rfl,fun _=>rfl,fun _ _ _ _ h=>h,fun q1 ρ hq=>?_,fun _ h=>h,fun _ h=>h,fun _ _ h=>h⟩,.own _ _ (.nil _ _ (by simp))⟩
   ·exact { av:=fun n=>(R.av n).mono (fun b k h=>⟨rfl,h⟩) (fun r _=>⟨rfl,fun j p hk=>⟨hk,by simp⟩⟩),
            rt:=fun n rt h=>(R.rt n rt h).mono (fun b k h=>⟨rfl,h⟩) (fun b j ρ h=>⟨rfl,h⟩) (fun _ _=>⟨rfl,rfl,rfl⟩) (fun j ρ=>by simp) (fun _ _ _ _=>by simp),
            ey:=R.ey,ea:=R.ea,bd:=R.bd,sz:=R.sz,fr:=R.fr,im:=R.im,mi:=R.mi,sd:=R.sd,fi:=R.fi }
   ·simp [hq]
 ·rename_i r j p;split at h
  ·rename_i d m1 ht;simp at h;obtain ⟨rfl,rfl⟩:=h;cases ha with
   |pl _ _ _ _ _ _ hx=>
    obtain ⟨sz,es,rt,d0,rfl,bz,_⟩:=tt ht;have hk:=(fo bz).1;rw [hx hk];exact ⟨_,R.take ht q _,.tk ht g q _,.own _ _ (R.Vf ht q)⟩
  ·cases h
 ·rename_i r j p sz hi;split at h
  ·rename_i es d m1 hc ht;simp at h;obtain ⟨rfl,rfl⟩:=h;obtain ⟨mh,bz,_,ni,rfl⟩:=yQ hc;obtain ⟨yj,uW,rt,d0,rfl,KI,_⟩:=tt ht;rw [bz] at KI;cases KI;cases ha with
   |rg _ _ _ _ _ _ _ _ _ hx=>
    have hk:=(fo bz).1;rw [hx hk];exact ⟨_,R.take ht q _,.tk ht g q _,.own _ _ (by simpa using R.Vg ht q hi ni)⟩
  ·cases h
 ·cases h
theorem BI:∀(as:List AV) {S:St} {g:Gh} (R:Rel w0 cl0 S ts w g) {vals:List Value} {cs:List C} {m':Ms} (q:Nat),
 as.length=vals.length→(∀(i:Nat) (a:AV) (x:Value),as[i]?=some a→vals[i]?=some x→RA w g S.ms a x)→
 eX S.ms as=some (cs,m')→
 ∃g',Rel w0 cl0 { S with ms:=m' } ts w g'∧eV (fun x=>q≤x∧x<q+as.length) g S.ms g' m'∧cs.length=as.length∧
  ∀(i:Nat) (c:C) (x:Value),cs[i]?=some c→vals[i]?=some x→RC w g' 0 (q+i) c x:=by
 intro as;induction as with
 |nil=>
  intro S g R vals cs m' q hl hv h;simp [eX] at h;obtain ⟨rfl,rfl⟩:=h;exact ⟨g,R,.refl _ _ _,rfl,fun i c x hc=>by simp at hc⟩
 |cons a as ih=>
  intro S g R vals cs m' q hl hv h;cases vals with
  |nil=>simp at hl
  |cons v vals=>
   simp only [eX] at h;cases h1:eo S.ms a with
   |none=>simp [h1] at h
   |some cm=>
    obtain ⟨c,m1⟩:=cm;simp only [h1] at h;cases h2:eX m1 as with
    |none=>simp [h2] at h
    |some JD=>
     obtain ⟨jk,m2⟩:=JD;simp only [h2] at h;simp at h;obtain ⟨rfl,rfl⟩:=h;obtain ⟨g1,R1,T1,py⟩:=uJ R (hv 0 a v rfl rfl) h1 q
     obtain ⟨g2,R2,T2,bV,O4⟩:=ih (S:={ S with ms:=m1 }) R1 (vals:=vals) (q+1) (by simpa using hl)
      (fun i a x ha hx=>T1.ra (hv (i+1) a x ha hx)) h2
     refine ⟨g2,R2,(T1.tD fun x h=>(by subst h;simp)).trans (T2.tD fun x h=>(by simp only [List.length_cons];omega)),by simp [bV],fun i c1 x hc hx=>?_⟩;cases i with
     |zero=>simp at hc hx;subst hc;subst hx;exact T2.rc (by omega) py
     |succ i=>
      have:=O4 i c1 x hc hx;rwa [show q+(i+1)=q+1+i from by omega]
end
end
section
section
variable {w0:World} {cl0:dv} {S:St} {ts:Array Value} {w:World} {g:Gh}
theorem Rel.slot (R:Rel w0 cl0 S ts w g) {d:Nat} {a:AV} {v:Value} (hd:d<ts.size) (ha:RA w g S.ms a v)
 (hr:∀r∈a.refs,((S.ms r).1).isSome):Rel w0 cl0 { S with av:=aB S.av d a } (ts.setIfInBounds d v) w g:=by
 refine { av:=fun n=>?_,rt:=R.rt,ey:=fun n r h=>?_,ea:=R.ea,bd:=R.bd,sz:=R.sz,fr:=R.fr,im:=R.im,mi:=R.mi,sd:=R.sd,fi:=R.fi }
 ·by_cases e:n=d
  ·subst e;simp [aB,zw,hd];exact ha
  ·simp only [eL e]
   have:(ts.setIfInBounds d v).getD n undef=ts.getD n undef:=by
    simp [zw,Array.getElem?_setIfInBounds,Ne.symm e]
   rw [this];exact R.av n
 ·by_cases e:n=d
  ·subst e;simp [aB] at h;exact hr r h
  ·simp only [eL e] at h;exact R.ey n r h
structure dT (d:Nat) (w w':World) (g g':Gh):Prop where
 hp:∀b,b<w.heap.size→(∀j ρ,g.cl b≠.own 0 j ρ)→w'.heap[b]?=w.heap[b]?
 hs:w.heap.size≤w'.heap.size
 kc:∀b k,g'.cl b=kc k↔g.cl b=kc k
 cl:∀b n j ρ,g.cl b=.own (n+1) j ρ→n≠d→g'.cl b=.own (n+1) j ρ
 bx:∀b n,g.cl b=.box n→n≠d→g'.cl b=.box n
 hd:∀n j ρ,n≠d→g'.hd (n+1) j ρ=g.hd (n+1) j ρ
 bk:∀n,n≠d→g'.bk n=g.bk n
 bd:∀b,g'.cl b≠.no→g.cl b≠.no∨(w.heap.size≤b∧b<w'.heap.size)
 mi:∀b,b<w.heap.size→(g'.cl b).bS=true→(g.cl b).bS=true
 sd:ee w w'
theorem dT.refl (d:Nat) (w:World) (g:Gh):dT d w w g g:=
 ⟨fun _ _ _=>rfl,zF _,fun _ _=>.rfl,fun _ _ _ _ h _=>h,fun _ _ h _=>h,fun _ _ _ _=>rfl,fun _ _=>rfl,fun _ h=>.inl h,fun _ _ h=>h,.refl _⟩
theorem Rel.fresh (R:Rel w0 cl0 S ts w g) {d:Nat} {rt:Rt} {w':World} {g':Gh} (hn:(S.ms d).1=none) (H:dT d w w' g g')
 (bP:kE w' g' d rt) (pI:∀(j r j':Nat),rt.cells[j]?=some (C.rf r j')→∃cs,(S.ms r).1=some (.aR cs)):
 Rel w0 cl0 { S with ms:=aB S.ms d (some rt,[]) } ts w' g':=by
 have ah:∀b,g.cl b≠.no→(∀j ρ,g.cl b≠.own 0 j ρ)→w'.heap[b]?=w.heap[b]?:=fun b hb=>H.hp b (R.bd b hb)
 have de:∀b k,g.cl b=OM.kc k→w'.heap[b]?=w.heap[b]?∧g'.cl b=OM.kc k:=
  fun b k h=>⟨ah b (by rw [h];cases k<;>simp [OM.kc]) (by rw [h];cases k<;>simp [OM.kc]),(H.kc b k).2 h⟩
 have cg:∀r,((S.ms r).1).isSome→r≠d:=fun r h e=>by subst e;simp [hn] at h
 refine { av:=fun n=>?_,rt:=fun n bX h=>?_,ey:=fun n r h=>yg (R.ey n r h),ea:=fun n bX j r j' h h1=>?_,
          bd:=fun b h=>?_,sz:=Nat.le_trans R.sz H.hs,fr:=fun b hb hm=>?_,im:=fun b k=>(H.kc b k).trans (R.im b k),
          mi:=fun b hb hm=>R.mi b hb (H.mi b (zx hb R.sz) hm),sd:=R.sd.trans H.sd,
          fi:=fun i hi=>(by
           have h:=R.fi i hi;have cg:i≠d:=fun e=>by subst e;rw [hn] at h;exact h
           simp only [eL cg];revert h;cases (S.ms i).1 with
           |none=>exact id
           |some bX=>
            cases bX with
            |aR cs=>exact fun h j1=>(H.hd i j1 [] cg).trans (h j1)
            |bx cs=>exact fun h=>(H.bk i cg).trans h) }
 ·refine (R.av n).mono de (fun r hr=>?_);have:=cg r (R.ey n r hr);exact ⟨H.bk r this,fun j p hk=>⟨by simpa only [Ms.bM,eL this] using hk,H.hd r j p this⟩⟩
 ·by_cases e:n=d
  ·subst e;simp [aB] at h;subst h;exact bP
  ·simp only [eL e] at h;have h0:=R.rt n bX h;refine h0.mono de (fun b j ρ hb=>⟨ah b (by rw [hb];simp) (by rw [hb];simp),H.cl b n j ρ hb e⟩) (fun cs dx=>?_) (fun j ρ=>H.hd n j ρ e) (fun j r1 j1 hc=>?_)
   ·subst dx;exact ⟨H.bk n e,ah _ (by rw [h0.1];simp) (by rw [h0.1];simp),by rw [h0.1];exact H.bx _ _ h0.1 e⟩
   ·obtain ⟨cs,h2⟩:=R.ea n bX j r1 j1 h hc;exact H.hd r1 j1 [] (cg r1 (by simp [h2]))
 ·have:∃cs,(S.ms r).1=some (.aR cs):=by
   by_cases e:n=d
   ·subst e;simp [aB] at h;subst h;exact pI j r j' h1
   ·simp only [eL e] at h;exact R.ea n bX j r j' h h1
  obtain ⟨cs,h2⟩:=this;exact ⟨cs,by simp only [eL (cg r (by simp [h2]))];exact h2⟩
 ·rcases H.bd b h with h1|h1
  ·exact zx (R.bd b h1) H.hs
  ·exact h1.2
 ·rw [H.hp b (zx hb R.sz) (fun j ρ h=>by
   have:=R.mi b hb (by rw [h];rfl)
   rw [this] at hm;cases hm)]
  exact R.fr b hb hm
structure MI (r b0:Nat) (aR:Bool) (m':Ms) (w w':World) (g g':Gh):Prop where
 hp:∀b,b≠b0→w'.heap[b]?=w.heap[b]?
 hs:w'.heap.size=w.heap.size
 ow:g.cl b0=.box r∨∃j ρ,g.cl b0=.own (r+1) j ρ
 kc:∀b k,g'.cl b=kc k↔g.cl b=kc k
 cl:∀b n j ρ,g.cl b=.own (n+1) j ρ→g'.cl b=.own (n+1) j ρ
 bx:∀b n,g.cl b=.box n→g'.cl b=.box n
 hd:∀n j ρ,n≠r→g'.hd (n+1) j ρ=g.hd (n+1) j ρ
 hr:∀j ρ,m'.bM r j ρ=false→g'.hd (r+1) j ρ=g.hd (r+1) j ρ
 hv:∀j,aR=true→g'.hd (r+1) j []=g.hd (r+1) j []
 bk:g'.bk=g.bk
 bd:∀b,g'.cl b≠.no→g.cl b≠.no
 mi:∀b,(g'.cl b).bS=true→(g.cl b).bS=true
 sd:ee w w'
theorem Rel.Jz (R:Rel w0 cl0 S ts w g) {r b0:Nat} {rt rt':Rt} {kl:List (Nat×aI)} {w':World} {g':Gh} (h0:(S.ms r).1=some rt)
 (Dt:rt.sU=rt'.sU)
 (H:MI r b0 rt.sU (aB S.ms r (some rt',kl++(S.ms r).2)) w w' g g') (bP:kE w' g' r rt')
 (pI:∀(j r1 j':Nat),rt'.cells[j]?=some (C.rf r1 j')→∃cs,(S.ms r1).1=some (.aR cs)):
 Rel w0 cl0 { S with ms:=aB S.ms r (some rt',kl++(S.ms r).2) } ts w' g':=by
 have Ck:(g.cl b0).bS=true:=by rcases H.ow with h|⟨j,ρ,h⟩<;>rw [h]<;>rfl
 have de:∀b k,g.cl b=OM.kc k→w'.heap[b]?=w.heap[b]?∧g'.cl b=OM.kc k:=fun b k h=>
  ⟨H.hp b (fun e=>by subst e;rw [h] at Ck;cases k<;>simp [OM.kc,cM.bS] at Ck),(H.kc b k).2 h⟩
 have Rp:∀r1 cs,(S.ms r1).1=some (.aR cs)→∃kI,(aB S.ms r (some rt',kl++(S.ms r).2) r1).1=some (.aR kI):=by
  intro r1 cs h;by_cases e:r1=r
  ·subst e;rw [h0] at h;cases h;cases rt' with
   |aR kI=>exact ⟨kI,by simp [aB]⟩
   |bx=>simp [Rt.sU] at Dt
  ·exact ⟨cs,by simpa [aB,e] using h⟩
 refine { av:=fun n=>?_,rt:=fun n bX h=>?_,ey:=fun n r1 h=>yg (R.ey n r1 h),ea:=fun n bX j r1 j' h h1=>?_,
          bd:=fun b h=>?_,sz:=by show _≤w'.heap.size;rw [H.hs];exact R.sz,fr:=fun b hb hm=>?_,im:=fun b k=>(H.kc b k).trans (R.im b k),
          mi:=fun b hb hm=>R.mi b hb (H.mi b hm),sd:=R.sd.trans H.sd,
          fi:=fun i hi=>(by
           have h:=R.fi i hi;by_cases e:i=r
           ·subst e;rw [h0] at h;simp only [aB,if_true];cases rt with
            |aR cs=>
             cases rt' with
             |aR kI=>exact fun j1=>(H.hv j1 rfl).trans (h j1)
             |bx kI=>simp [Rt.sU] at Dt
            |bx cs=>
             cases rt' with
             |aR kI=>simp [Rt.sU] at Dt
             |bx kI=>exact (congrFun H.bk i).trans h
           ·simp only [eL e];revert h;cases (S.ms i).1 with
            |none=>exact id
            |some bX=>
             cases bX with
             |aR cs=>exact fun h j1=>(H.hd i j1 [] e).trans (h j1)
             |bx cs=>exact fun h=>(congrFun H.bk i).trans h) }
 ·refine (R.av n).mono de (fun r1 hr=>⟨by rw [H.bk],fun j p hk=>⟨DJ hk,?_⟩⟩);by_cases e:r1=r
  ·subst e;exact H.hr j p hk
  ·exact H.hd r1 j p e
 ·by_cases e:n=r
  ·subst e;simp [aB] at h;subst h;exact bP
  ·simp only [eL e] at h;have h2:=R.rt n bX h;refine h2.mono de (fun b j ρ hb=>⟨H.hp b (fun e1=>?_),H.cl b n j ρ hb⟩) (fun cs dx=>?_) (fun j ρ=>H.hd n j ρ e) (fun j r1 j1 hc=>?_)
   ·subst e1;rcases H.ow with h3|⟨j3,Wd,h3⟩<;>rw [h3] at hb
    ·cases hb
    ·simp at hb;exact e hb.1.symm
   ·subst dx;refine ⟨by rw [H.bk],H.hp _ (fun e1=>?_),by rw [h2.1];exact H.bx _ _ h2.1⟩;have h4:=h2.1;rw [e1] at h4;rcases H.ow with h3|⟨j3,Wd,h3⟩<;>rw [h3] at h4
    ·cases h4;exact e rfl
    ·cases h4
   ·obtain ⟨cs,h3⟩:=R.ea n bX j r1 j1 h hc;by_cases e1:r1=r
    ·subst e1;rw [h0] at h3;cases h3;exact H.hv j1 rfl
    ·exact H.hd r1 j1 [] e1
 ·have:∃cs,(S.ms r1).1=some (.aR cs):=by
   by_cases e:n=r
   ·subst e;simp [aB] at h;subst h;exact pI j r1 j' h1
   ·simp only [eL e] at h;exact R.ea n bX j r1 j' h h1
  obtain ⟨cs,h2⟩:=this;exact Rp r1 cs h2
 ·show b<w'.heap.size;rw [H.hs];exact R.bd b (H.bd b h)
 ·by_cases e:b=b0
  ·subst e;have:=R.mi b hb Ck;rw [this] at hm;cases hm
  ·rw [H.hp b e];exact R.fr b hb hm
end
end
theorem T_ {l vs:List Value} {o k:Nat} (h:o+vs.length≤l.length):
 (l.take o++vs++l.drop (o+vs.length)).toArray[k]?=if o≤k∧k<o+vs.length then vs[k-o]? else l[k]?:=by
 simp only [List.getElem?_toArray];by_cases h1:k<o
 ·rw [if_neg (by omega),zg,zC (by simp;omega),zd h1]
 ·by_cases h2:k<o+vs.length
  ·rw [if_pos ⟨by omega,h2⟩,zg,zz (by simp;omega)];simp only [zD];rw [show min o l.length=o from by omega,zC (by omega)]
  ·rw [if_neg (by omega),zz (by simp;omega)];simp only [zL,zD,zk];rw [show min o l.length=o from by omega];congr 1;omega
theorem ee.alloc {w:World} (vals:Array Value) (E:TypeId):ee w (w.alloc (.cells vals E)):=
 .of (b:=w.heap.size) rfl rfl rfl (zF _) (fun b' hb=>by
  rcases zr b' w.heap.size with h|h
  ·exact heap_alloc_old w _ b' h
  ·rw [zq (by simp;omega),zq (by omega)]) (.inl (by simp)) ⟨_,_,heap_alloc_new w _⟩
theorem IF (P:Program) {w:World} {b o:Nat} {vals:Array Value} {E:TypeId} (hw:w.heap[b]?=some (.cells vals E)) (xs:List Value)
 (h:o+xs.length≤vals.size) (h1:∀x∈xs,x.oneCell'=true):
 ∃w' dV,(storeCells ⟨b,o,none⟩ xs 0).run P w=.ok () w'∧w'.heap[b]?=some (.cells dV E)∧dV.size=vals.size∧
  (∀k:Nat,dV[k]?=if o≤k∧k<o+xs.length then xs[k-o]? else vals[k]?)∧(∀b',b'≠b→w'.heap[b']?=w.heap[b']?)∧w'.heap.size=w.heap.size∧ee w w':=by
 have hr:=run_storeCells_at (P:=P) b o E xs 0 vals w hw (by simpa using h) h1;simp only [Nat.add_zero] at hr
 refine ⟨_,_,hr,setRow_heap w b vals _ E _ hw,?_,fun k=>?_,fun b' hb=>setRow_other w b b' _ hb,setRow_size _ _ _,
  .of rfl rfl rfl (zF _) (fun b' hb=>setRow_other w b b' _ hb) (.inr ⟨_,_,hw⟩) ⟨_,_,setRow_heap w b vals _ E _ hw⟩⟩
 ·simp only [zN,zL,zD,List.length_drop,Array.length_toList];omega
 ·rw [T_ (by simpa using h)];simp
theorem xm (P:Program) {w:World} {b o n:Nat} {xs:List Value} (hl:xs.length=n)
 (h:∀(k:Nat) (x:Value),xs[k]?=some x→w.cell? ⟨b,o+k,none⟩=some x):(loadCells ⟨b,o,none⟩ n).run P w=.ok xs.toArray w:=by
 rw [←hl];refine run_loadCells_list w ⟨b,o,none⟩ xs (fun j v hv=>?_);rw [Addr.add_lit];exact h j v hv
theorem Jc (P:Program) {w:World} {t u ty e E0:TypeId} {i:TypeInfo} {z x:Value} {n:Nat} {news:List Value}
 (ht:P.underlying t=some (.slice e)) (hi:P.info? e=some i) (hz:i.zero=some z)
 (hx:(P.underlying u=some (.slice e)∧∃a c,x=.slice a n c)∨(P.underlying u=some .string∧∃s:ByteArray,x=.string s∧s.size=n)) (hf:∀w1:World,w1.heap=w.heap→(Builtin.firstCells i.size n x).run P w1=.ok news.toArray w1)
 (hl:news.length=n*i.size) (h1:∀y∈news,y.oneCell'=true)
 (base:Option Addr) (dG ib:Nat) (hb:(base=none∧dG=0∧ib=0)∨∃b off vals,base=some ⟨b,off,none⟩∧dG≤ib∧
   w.heap[b]?=some (.cells vals E0)∧off+ib*i.size≤vals.size) (pA:(dG+n)*i.bytes≤2^46) (h63:dG+n≤2^62):
 (∃(b off:Nat) (vals:Array Value) (w':World) (dV:Array Value),base=some ⟨b,off,none⟩∧dG+n≤ib∧w.heap[b]?=some (.cells vals E0)∧off+ib*i.size≤vals.size∧
   (Builtin.append_ #[t,u] ty #[.slice base dG ib,x]).run P w=.ok (.slice (some ⟨b,off,none⟩) (dG+n) ib) w'∧
   w'.heap[b]?=some (.cells dV E0)∧dV.size=vals.size∧
   (∀k:Nat,dV[k]?=if off+dG*i.size≤k∧k<off+dG*i.size+n*i.size then news[k-(off+dG*i.size)]? else vals[k]?)∧
   (∀b',b'≠b→w'.heap[b']?=w.heap[b']?)∧w'.heap.size=w.heap.size∧ee w w')∨
 (base=none∧n=0∧(Builtin.append_ #[t,u] ty #[.slice base dG ib,x]).run P w=.ok (.slice none 0 0) w)∨
 (∃(cap:Nat) (dV:Array Value) (w':World) (lD:List Value),dG+n≤cap∧(Builtin.append_ #[t,u] ty #[.slice base dG ib,x]).run P w=.ok (.slice (some ⟨w.heap.size,0,none⟩) (dG+n) cap) w'∧
   w'.heap[w.heap.size]?=some (.cells dV e)∧w'.heap.size=w.heap.size+1∧ee w w'∧(∀b',b'<w.heap.size→w'.heap[b']?=w.heap[b']?)∧
   (∀k:Nat,k<dG*i.size→dV[k]?=lD[k]?)∧lD.length=dG*i.size∧
   (∀k:Nat,k<n*i.size→dV[dG*i.size+k]?=news[k]?)∧(z.cells.size=i.size→cap*i.size=dV.size)∧
   (∀b off vals,base=some ⟨b,off,none⟩→w.heap[b]?=some (.cells vals E0)→∀k:Nat,k<dG*i.size→lD[k]?=vals[off+k]?)):=by
 have hmul:∀k,dG+n≤k→dG*i.size+n*i.size≤k*i.size:=fun k hk=>by rw [←zG];exact zm _ hk
 by_cases sC:dG+n≤ib
 ·rcases hb with ⟨rfl,rfl,rfl⟩|⟨b,off,vals,rfl,sD,hw,hN⟩
  ·right;left;have iv:n=0:=by omega
   subst iv;refine ⟨rfl,rfl,?_⟩;have nc:=hf w rfl;rcases hx with ⟨hu,a,c,rfl⟩|⟨hu,s,rfl,hs⟩
   ·simp [Builtin.append_,run_underlying ht,run_underlying hu,sizeOf,typeInfo,hi,Builtin.lenOf,nc]
   ·rw [←hs] at nc;simp [Builtin.append_,run_underlying ht,run_underlying hu,sizeOf,typeInfo,hi,Builtin.lenOf,hs,nc];try (rw [hs] at nc;simp [nc])
  ·left;obtain ⟨w',dV,hr,h2,h3,h4,h5,h6⟩:=IF P hw (o:=off+dG*i.size) news (by rw [hl];have:=hmul ib sC;omega) h1;refine ⟨b,off,vals,w',dV,rfl,sC,hw,hN,?_,h2,h3,fun k=>by rw [h4,hl],h5,h6⟩;have nc:=hf w rfl;rcases hx with ⟨hu,a,c,rfl⟩|⟨hu,s,rfl,hs⟩
   ·simp [Builtin.append_,run_underlying ht,run_underlying hu,sizeOf,typeInfo,hi,Builtin.lenOf,sC,nc,Addr.add_lit,hr]
   ·simp [Builtin.append_,run_underlying ht,run_underlying hu,sizeOf,typeInfo,hi,Builtin.lenOf,hs,sC,nc,Addr.add_lit,hr]
 ·right;right;have Ku:¬(9223372036854775807<((dG:Int)+(n:Int))):=by omega
  have Kt:¬(281474976710656<Builtin.nextslicecap (dG+n) ib*i.bytes):=by
   have:=growslice_fits (need:=dG+n) (old:=ib) (bytes:=i.bytes) (by omega) (by omega);omega
  have vk:=grownCap_ge w (dG+n) ib e
  have hold:∃lD:List Value,lD.length=dG*i.size∧(∀w1:World,w1.heap=w.heap→(Builtin.firstCells i.size dG (.slice base dG ib)).run P w1=.ok lD.toArray w1)∧
   (∀b off vals,base=some ⟨b,off,none⟩→w.heap[b]?=some (.cells vals E0)→∀k:Nat,k<dG*i.size→lD[k]?=vals[off+k]?):=by
   rcases hb with ⟨rfl,rfl,rfl⟩|⟨b,off,vals,rfl,sD,hw,hN⟩
   ·exact ⟨[],by simp,fun w1 _=>by simp [Builtin.firstCells],fun _ _ _ h=>by cases h⟩
   ·have hle:dG*i.size≤ib*i.size:=zm _ sD;refine ⟨(vals.toList.drop off).take (dG*i.size),by simp;omega,fun w1 bW=>?_,fun b1 LI Vs pw bW k hk=>?_⟩
    ·simp only [Builtin.firstCells];refine xm P (by simp;omega) (fun k x hx=>?_);rw [jP (vals:=vals) (E:=E0) (fz:=(0,0)) (by rw [bW];exact hw)];rw [zf] at hx;split at hx
     ·simpa using hx
     ·cases hx
    ·cases pw;rw [hw] at bW;cases bW;rw [zd hk];simp
  obtain ⟨lD,CU,Q0,Q1⟩:=hold
  refine ⟨grownCap w (dG+n) ib e,lD.toArray++news.toArray++Builtin.zeroCells z.cells (grownCap w (dG+n) ib e-(dG+n)),
   w.drew.alloc (.cells (lD.toArray++news.toArray++Builtin.zeroCells z.cells (grownCap w (dG+n) ib e-(dG+n))) e),lD,vk,?_,?_,?_,?_,?_,?_,CU,?_,?_,Q1⟩
  ·have nc:=hf w.drew rfl;have sw:=Q0 w.drew rfl;rcases hx with ⟨hu,a,c,rfl⟩|⟨hu,s,rfl,hs⟩
   ·simp [Builtin.append_,run_underlying ht,run_underlying hu,sizeOf,typeInfo,zeroValue,hi,hz,Builtin.lenOf,sC,Ku,Kt,Question.forced,nc,sw,newRow,grownCap];congr 2;apply Array.ext';simp [zg]
   ·simp [Builtin.append_,run_underlying ht,run_underlying hu,sizeOf,typeInfo,zeroValue,hi,hz,Builtin.lenOf,hs,sC,Ku,Kt,Question.forced,nc,sw,newRow,grownCap];congr 2;apply Array.ext';simp [zg]
  ·exact heap_alloc_new w.drew _
  ·simp
  ·exact ⟨rfl,rfl,(ee.alloc (w:=w.drew) _ _).fz,rfl,Nat.le_succ _⟩
  ·exact fun b' dc=>heap_alloc_old w.drew _ b' dc
  ·intro k hk;rw [zM,zA (by simp;omega)];simp
  ·intro k hk;rw [zM,Array.getElem?_append_right (by simp;omega),zA (by simp;omega)];simp [CU]
  ·intro ju;simp only [Array.size_append,zN,size_zeroCells,ju,CU,hl,←zG];congr 1;omega
section
def Live (m:Ms) (a:AV):Prop:=∀r∈a.refs,((m r).1).isSome
section
variable {w0:World} {cl0:dv} {S:St} {ts:Array Value} {w:World} {g:Gh} {m:Ms}
theorem RO.scalar {k:Bool} {d:D} {x:Value} {cl:Nat→cM} (h:RO w cl k d x) (hs:∀sz es,d≠.sl sz es) (hf:∀g ds,d≠.fn g ds) (hr:∀ds,d≠.rp ds):RO w cl false d x:=by
 cases h with
 |int=>exact .int _ _
 |bool=>exact .bool _
 |str=>exact .str _
 |dead=>exact .dead _
 |emp=>exact absurd rfl (hs _ _)
 |sl=>exact absurd rfl (hs _ _)
 |fn=>exact absurd rfl (hf _ _)
 |uX=>exact absurd rfl (hf _ _)
 |rp=>exact absurd rfl (hr _)
theorem AY {k:Bool} {d:D} {x:Value} (h:RO w g.cl k d x):RA w g m (rq k d) x:=by
 unfold rq;split
 ·exact .v _ _ _ h
 ·exact .v _ _ _ h
 ·exact .v _ _ _ h
 ·rename_i h1 h2 h3;exact .v _ _ _ (h.scalar h1 h2 h3)
theorem AZ (k:Bool) (d:D):(rq k d).refs=[]:=by unfold rq;split<;>simp [AV.refs]
theorem OW.scalar {r j:Nat} {p:aI} {d:D} {x:Value} (h:OW w g r j p d x) (hs:∀sz es,d≠.sl sz es) (hd:d≠.dead) (k:Bool):RO w g.cl k d x:=by
 cases h with
 |int=>exact .int _ _
 |bool=>exact .bool _
 |str=>exact .str _
 |dead=>exact absurd rfl hd
 |nil=>exact absurd rfl (hs _ _)
 |sl=>exact absurd rfl (hs _ _)
theorem BS {r j:Nat} {p:aI} {d:D} {x:Value} (h:OW w g (r+1) j p d x):RA w g m (qB r j p d) x:=by
 unfold qB;split
 ·obtain ⟨b,n,c,rfl⟩:=h.slice;exact .pl _ _ _ _ _ _ fun _=>h.ir
 ·exact .un _
 ·rename_i h1 h2;exact .v _ _ _ (h.scalar h1 h2 _)
theorem Jn {r j:Nat} {p:aI} {d:D} (h:((m r).1).isSome):Live m (qB r j p d):=by
 unfold qB Live;split<;>simp [AV.refs,h]
theorem ql {r j:Nat} {c:C} {x:Value} (h:RC w g (r+1) j c x):RA w g m (kt r j c) x:=by
 cases h with
 |ro k d _ h=>exact AY h
 |own d _ h=>exact BS h
 |rf r' j' b n c hh=>exact .pl _ _ _ _ _ _ fun _=>hh.symm
theorem TX {r j:Nat} {c:C} (h:((m r).1).isSome) (hf:∀r' j',c=.rf r' j'→((m r').1).isSome):Live m (kt r j c):=by
 cases c with
 |ro k d=>simp [kt,Live,AZ]
 |own d=>exact Jn h
 |rf r' j'=>simp [kt,Live,AV.refs,hf r' j' rfl]
theorem MH {α:Type} {l:List α} {j k:Nat} {x:α×Nat} (h:(l.zipIdx)[k]?=some x):l[k]?=some x.1∧x.2=k:=by
 rw [List.getElem?_zipIdx] at h;simp only [zb] at h;obtain ⟨a,h1,rfl⟩:=h;simpa using h1
theorem ur {o:Option Rt} {rt:Rt} (h:o=some rt):o.isSome:=by rw [h];rfl
theorem LB (R:Rel w0 cl0 S ts w g) {a:AV} {v:Value} (ha:RA w g S.ms a v) {n:Nat} {BL:List AV} (h:jx S.ms n a=some BL):
 ∃(b o:Nat) (xs:List Value),v=.pointer (some ⟨b,o,none⟩)∧xs.length=n∧BL.length=n∧
  (∀(k:Nat) (x:Value),xs[k]?=some x→w.cell? ⟨b,o+k,none⟩=some x)∧
  ∀(k:Nat) (av:AV) (x:Value),BL[k]?=some av→xs[k]?=some x→RA w g S.ms av x∧Live S.ms av:=by
 cases ha with
 |bx r j=>
  simp only [jx] at h;cases hr:(S.ms r).1 with
  |none=>simp [hr] at h
  |some rt=>
   cases rt with
   |aR=>simp [hr] at h
   |bx cs=>
    simp only [hr] at h;split at h
    ·rename_i hle;simp at h;subst h;obtain ⟨bA,vals,E,hh,hs,hc⟩:=R.rt r _ hr;refine ⟨g.bk r,j,(vals.toList.drop j).take n,rfl,by simp;omega,by simp;omega,fun k x hx=>?_,fun k av x c4 hx=>?_⟩
     ·rw [jP hh];rw [zf] at hx;split at hx
      ·simpa using hx
      ·cases hx
     ·simp only [zh,zb] at c4;obtain ⟨y,hy,rfl⟩:=c4;obtain ⟨fb,pQ⟩:=MH (j:=0) hy;rw [zf] at fb hx;split at hx
      ·rename_i hk;simp only [hk,if_true] at fb;simp only [zk,zJ] at hx fb;subst pQ
       exact ⟨ql (hc _ _ x fb hx),TX (ur hr) fun r' j' e=>by
        obtain ⟨kI,h5⟩:=R.ea r _ (j+y.2) r' j' hr (by simpa [Rt.cells,e] using fb)
        exact ur h5⟩
      ·cases hx
    ·cases h
 |ad r j p sz i c b1 o1 hx=>
  simp only [jx] at h;cases bz:S.ms.at r j p with
  |none=>simp [bz] at h
  |some d=>
   cases d with
   |sl dQ es=>
    simp only [bz] at h;cases he:es[i]? with
    |none=>simp [he] at h
    |some e=>
     simp only [he] at h;split at h
     ·rename_i hle;obtain ⟨hle,rfl⟩:=hle;simp at h;subst h;obtain ⟨x0,ho⟩:=R.at bz;have hv:=hx (fo bz).1;have:=ho.ir;subst this;obtain ⟨hk,rt,d0,bP,_,_⟩:=fo bz;generalize hg:g.hd (r+1) j p=v0 at ho hv;cases ho with
      |nil=>simp at he
      |sl _ _ _ b off cap vals E hh hc hl cf hw hN gI=>
       rw [hv];have jo:=jR hl he;have y7:=bj he;refine ⟨b,off+(i*dQ+c),(vals.toList.drop (off+(i*dQ+c))).take n,rfl,?_,by simp;omega,fun k x hx=>?_,fun k av x c4 hx=>?_⟩
       ·have h1:(i+1)*dQ≤cap*dQ:=zm _ (by omega);rw [Nat.succ_mul] at h1;simp;omega
       ·rw [jP hw];rw [zf] at hx;split at hx
        ·simpa using hx
        ·cases hx
       ·simp only [zh,zb] at c4;obtain ⟨y,hy,rfl⟩:=c4;obtain ⟨fb,pQ⟩:=MH (j:=0) hy;rw [zf] at fb hx;split at hx
        ·rename_i hk;simp only [hk,if_true] at fb;simp only [zk,zJ] at hx fb;subst pQ;have:=gI i (c+y.2) e y.1 x he fb (by rw [←hx];congr 1;omega);exact ⟨BS this,Jn (ur bP)⟩
        ·cases hx
     ·cases h
   |_=>simp [bz] at h
 |ra k sz es i c b off cap dz hi=>
  simp only [jx] at h;cases he:es[i]? with
  |none=>simp [he] at h
  |some e=>
   simp only [he] at h;split at h
   ·rename_i hle;have h:=zP h;subst h;generalize AP:Value.slice (some ⟨b,off,none⟩) es.length cap=v0 at dz;cases dz with
    |emp=>simp at he
    |sl _ _ b' uw Jk hc hl cf hs gI=>
     cases AP;have jo:=jR hl he;have y7:=bj he;have dF:∀q,q<n→∃x,w.cell? ⟨b,off+i*sz+(c+q),none⟩=some x:=fun q hq=>zp.1 (hs i (c+q) y7 (by omega))
     refine ⟨b,off+i*sz+c,(List.range n).map fun q=>(w.cell? ⟨b,off+i*sz+(c+q),none⟩).getD undef,rfl,by simp,by simp;omega,fun k x hx=>?_,fun k av x c4 hx=>?_⟩
     ·simp only [zh,zb] at hx;obtain ⟨y,hy,rfl⟩:=hx;have i_:=bj hy;simp at i_;rw [zn i_] at hy;cases hy;obtain ⟨z,hz⟩:=dF k i_;rw [hz];simpa [zR] using hz
     ·simp only [zh,zb] at hx c4;obtain ⟨y,hy,rfl⟩:=hx;obtain ⟨u,hu,rfl⟩:=c4;have i_:=bj hy;simp at i_;rw [zn i_] at hy;cases hy;obtain ⟨z,hz⟩:=dF k i_;rw [zd i_] at hu;simp only [zk] at hu;rw [hz];exact ⟨AY (gI i (c+k) e u z he hu hz),by simp [Live,AZ]⟩
   ·cases h
 |v k d x dz=>
  cases dz with
  |rp ds b cg hc hs gI=>
   simp only [jx] at h;split at h
   ·rename_i hle;have h:=zP h;subst h;have dF:∀q,q<n→∃x,w.cell? ⟨b,0+q,none⟩=some x:=fun q hq=>zp.1 (by rw [Nat.zero_add];exact hs q (by omega))
    refine ⟨b,0,(List.range n).map fun q=>(w.cell? ⟨b,0+q,none⟩).getD undef,rfl,by simp,by simp;omega,fun k x hx=>?_,fun k1 av x c4 hx=>?_⟩
    ·simp only [zh,zb] at hx;obtain ⟨y,hy,rfl⟩:=hx;have i_:=bj hy;simp at i_;rw [zn i_] at hy;cases hy;obtain ⟨z,hz⟩:=dF k i_;rw [hz];rfl
    ·simp only [zh,zb] at hx c4;obtain ⟨y,hy,rfl⟩:=hx;obtain ⟨u,hu,rfl⟩:=c4;have i_:=bj hy;simp at i_;rw [zn i_] at hy;cases hy;obtain ⟨z,hz⟩:=dF k1 i_;rw [zd i_] at hu;rw [hz];exact ⟨AY (gI k1 u z hu (by simpa using hz)),by simp [Live,AZ]⟩
   ·cases h
  |_=>simp [jx] at h
 |_=>simp [jx] at h
theorem B3 (R:Rel w0 cl0 S ts w g) {a:AV} {v:Value} (ha:RA w g S.ms a v) {sz:Nat} {es:List (List D)} (h:S.ms.eY a=some (sz,es)):
 ∃(b:Option Addr) (cap:Nat),v=.slice b es.length cap∧(∀e∈es,e.length=sz∨es=[])∧
  (es≠[]→∃b' o,b=some ⟨b',o,none⟩∧es.length≤cap∧(∀e∈es,e.length=sz)∧
    ∀(i c:Nat) (e:List D) (d:D),es[i]?=some e→e[c]?=some d→∃x,w.cell? ⟨b',o+i*sz+c,none⟩=some x∧
     ((∃k,RO w g.cl k d x)∨∃r j p,OW w g r j p d x)):=by
 cases ha with
 |v k d x dz=>
  cases dz with
  |emp s b cap=>simp [Ms.eY] at h;obtain ⟨rfl,rfl⟩:=h;exact ⟨b,cap,rfl,by simp,fun h=>absurd rfl h⟩
  |sl s JW b off cap hc hl cf hs gI=>
   simp [Ms.eY] at h;obtain ⟨rfl,rfl⟩:=h;refine ⟨_,cap,rfl,fun e he=>.inl (hl e he),fun _=>⟨b,off,rfl,cf,hl,fun i c e d he hd=>?_⟩⟩;obtain ⟨x,hx⟩:=zp.1 (hs i c (bj he) (by have:=jR hl he;have:=bj hd;omega));exact ⟨x,hx,.inl ⟨k,gI i c e d x he hd hx⟩⟩
  |_=>simp [Ms.eY] at h
 |nl s=>simp [Ms.eY] at h;obtain ⟨rfl,rfl⟩:=h;exact ⟨none,0,rfl,by simp,fun h=>absurd rfl h⟩
 |pl r j p b0 n0 c0 hx=>
  simp only [Ms.eY] at h;split at h
  ·rename_i s JW bz;simp at h;obtain ⟨rfl,rfl⟩:=h;obtain ⟨x0,ho⟩:=R.at bz;have hv:=hx (fo bz).1;have:=ho.ir;subst this;generalize hg:g.hd (r+1) j p=v0 at ho hv;rw [hv];cases ho with
   |nil=>exact ⟨none,0,rfl,by simp,fun h=>absurd rfl h⟩
   |sl _ _ _ b off cap vals E hh hc hl cf hw hN gI=>
    refine ⟨_,cap,rfl,fun e he=>.inl (hl e he),fun _=>⟨b,off,rfl,cf,hl,fun i c e d he hd=>?_⟩⟩;have ah:=pV (off:=off) (bj he) (by have:=jR hl he;have:=bj hd;omega:c<s) cf hN;exact ⟨vals[off+i*s+c],by rw [jP hw];simp [ah],.inr ⟨_,_,_,gI i c e d _ he hd (by simp [ah])⟩⟩
  ·cases h
 |rg r j p dQ lo hi b0 n0 c0 hx=>
  simp only [Ms.eY] at h;split at h
  ·rename_i JW sa;simp at h;obtain ⟨rfl,rfl⟩:=h;obtain ⟨mh,bz,Qk,ni,rfl⟩:=yQ sa;obtain ⟨x0,ho⟩:=R.at bz;have hv:=hx (fo bz).1;have:=ho.ir;subst this;generalize hg:g.hd (r+1) j p=v0 at ho hv;rw [hv];have hlen:((mh.take hi).drop lo).length=hi-lo:=by simp;omega
   cases ho with
   |nil=>
    have:hi=0:=by simpa using ni
    subst this;obtain rfl:lo=0:=by omega
    exact ⟨none,0,by simp [iJ],by simp,fun h=>by simp at h⟩
   |sl _ _ _ b off cap vals E hh hc hl cf hw hN gI=>
    refine ⟨_,cap-lo,by rw [hlen];rfl,fun e he=>.inl (hl e (zt (zK he))),fun cg=>?_⟩
    have rj:lo<hi:=by
     rcases zr lo hi with h|h
     ·exact h
     ·exact absurd (List.eq_nil_of_length_eq_zero (by omega)) cg
    have cg:cap≠lo:=by omega
    simp only [if_neg cg,zQ,Addr.add_lit];refine ⟨b,off+lo*dQ,rfl,by omega,fun e he=>hl e (zt (zK he)),fun i c e d he hd=>?_⟩;have P1:=bj he;rw [hlen] at P1
    have Cn:mh[lo+i]?=some e:=by
     simp only [zk] at he;rw [zd (by omega)] at he;exact he
    have ah:=pV (off:=off) (bj Cn) (by have:=jR hl Cn;have:=bj hd;omega:c<dQ) cf hN;have heq:off+(lo+i)*dQ+c=off+lo*dQ+i*dQ+c:=by rw [zG];omega
    rw [heq] at ah;exact ⟨vals[off+lo*dQ+i*dQ+c],by rw [jP hw];simp [ah],.inr ⟨_,_,_,gI (lo+i) c e d _ Cn hd (by rw [heq];simp [ah])⟩⟩
  ·cases h
 |_=>simp [Ms.eY] at h
end
end
def uR:AV→Value→Bool
 |.v false (.int k n),.int k' n'=>decide (k=k')&&decide (n=n')
 |.v false (.bool b),.bool b'=>b==b'
 |.v false (.str s),.string s'=>decide (s.data=s'.data)
 |.nl _,.slice none n c=>n==0&&c==0
 |.un,_=>true
 |.bu [],.tuple vs=>vs.size==0
 |_,_=>false
def rP:List AV→List Value→Bool
 |[],[]=>true
 |a::as,v::vs=>uR a v&&rP as vs
 |_,_=>false
def bJ:PX→Operand→Bool
 |.t n,.tmp m=>n==m
 |.c a,.const v=>uR a v
 |.c (.v false (.fn g [])),.func f=>f==jb g
 |_,_=>false
def pg:List PX→List Operand→Bool
 |[],[]=>true
 |a::as,v::vs=>bJ a v&&pg as vs
 |_,_=>false
def uz (P:Program):Nat→List Field→List Nat→Bool
 |_,[],[]=>true
 |i,f::fs,k::ks=>f.name != "_"&&f.offset==i&&(match P.underlying f.type,k with
    |some (.int _),0=>true
    |some .bool,1=>true
    |some .string,2=>true
    |_,_=>false)&&uz P (i+1) fs ks
 |_,_,_=>false
def Iq (P:Program) (t:TypeId) (ks:List Nat):Bool:=
 !P.stoodInHeld t&&!P.eqGuardType P.depth t&&match P.underlying t with
 |some (.struct fs)=>uz P 0 fs.toList ks
 |_=>false
def abe (P:Program) (t:TypeId):Bool:=
 match P.underlying t with
 |some .bool=>true
 |some (.int _)=>true
 |some .string=>true
 |_=>false
def tL (P:Program) (t:TypeId):Option Bool:=
 match P.underlying t with
 |some (.struct _)=>some true
 |some (.array ..)=>some true
 |some _=>some false
 |none=>none
def gP (P:Program) (t:TypeId):Option TypeId:=
 match P.underlying t with
 |some (.slice e)=>some e
 |_=>none
def o_ (P:Program) (t:TypeId):Option (List Value):=
 match P.info? t with
 |some i=>match i.zero with
  |some z=>if z.cells.size=i.size then some z.cells.toList else none
  |none=>none
 |none=>none
def fK (P:Program) (t:TypeId):Option (Nat×Nat):=
 match P.info? t with
 |some i=>some (i.size,i.bytes)
 |none=>none
def r6 (P:Program) (t:TypeId) (f:Nat):Option (Nat×Nat):=
 match P.underlying t with
 |some (.struct fs)=>match fs[f]? with
  |some fd=>match P.info? fd.type with
   |some i=>some (fd.offset,i.size)
   |none=>none
  |none=>none
 |_=>none
def yB:D→Value→Bool
 |.int k n,.int k' n'=>decide (k=k')&&decide (n=n')
 |.bool b,.bool b'=>b==b'
 |.str s,.string s'=>decide (s.data=s'.data)
 |.sl _ [],.slice none n c=>n==0&&c==0
 |_,_=>false
def qD:List D→List Value→Bool
 |[],[]=>true
 |a::as,v::vs=>yB a v&&qD as vs
 |_,_=>false
def mg:Option PX→Option Operand→Bool
 |none,none=>true
 |some x,some o=>bJ x o
 |_,_=>false
def tT (at?:Nat→Option (Nat×Nat)):List (Nat×PX)→List (Nat×Operand)→Bool
 |[],[]=>true
 |(off,x)::l,(i,o)::l'=>(match at? i with|some (uw,_)=>off==uw|none=>false)&&bJ x o&&tT at? l l'
 |_,_=>false
def tR (at?:Nat→Option (Nat×Nat)):List (Nat×Nat×PX)→List (Nat×Operand)→Bool
 |[],[]=>true
 |(off,n,x)::l,(i,o)::l'=>decide (at? i=some (off,n))&&bJ x o&&tR at? l l'
 |_,_=>false
def rep {α:Type} (n:Nat) (l:List α):List α:=(zH n l).flatten
def uN (P:Program) (f:FuncId):Bool:=
 match P.funcs[f]? with
 |some fn=>fn.body.isSome&&fn.name != "runtime.NumGoroutine"
 |none=>false
def aM (P:Program) (κ:Nat→FuncId) (o:aD) (op:Op):Bool:=
 match o,op with
 |.mv x,.move a=>bJ x a
 |.mv x,.assign a=>bJ x a
 |.pick c a b,.pick c' a' b'=>bJ c c'&&bJ a a'&&bJ b b'
 |.bin op x y,.binOp sY _ a b _=>decide (op=sY)&&bJ x a&&bJ y b
 |.kK neg x y,.binOp sY t a b _=>decide (sY=if neg then .neq else .eql)&&bJ x a&&bJ y b&&(match P.underlying t with|some .bool=>true|_=>false)
 |.eqs neg ks x y,.binOp sY t a b _=>decide (sY=if neg then .neq else .eql)&&bJ x a&&bJ y b&&Iq P t ks
 |.un op x,.unOp sY _ a=>decide (op=sY)&&bJ x a
 |.len x,.call c=>match c.callee,c.args.toList,c.argTypes.toList with
  |.builtin .len,[a],[t]=>bJ x a&&(match P.underlying t with|some (.slice _)=>true|_=>false)
  |_,_,_=>false
 |.lens x,.call c=>match c.callee,c.args.toList,c.argTypes.toList with
  |.builtin .len,[a],[t]=>bJ x a&&(match P.underlying t with|some .string=>true|_=>false)
  |_,_,_=>false
 |.box _ x,.box _ a=>bJ x a
 |.alloc zs,.alloc t=>match o_ P t with
  |some z=>rP zs z
  |none=>false
 |.build z ps,.build t parts=>(match o_ P t with
  |some z'=>rP z z'
  |none=>false)&&tR (r6 P t) ps parts.toList&&(match P.underlying t with
   |some (.struct fs)=>fs.toList.all fun f=>(P.info? f.type).isSome
   |_=>false)
 |.cu sz z n ps,.buildSlice t n' parts=>match gP P t with
  |some e=>match o_ P e with
   |some z'=>decide (n=n')&&decide (z'.length=sz)&&decide (n*sz≤2^24)&&qD z (rep n z')&&tT (fun i=>some (i*sz,sz)) ps parts.toList
   |none=>false
  |none=>false
 |.gR sz bytes z x,.makeSlice t l c=>match gP P t with
  |some e=>match o_ P e,fK P e with
   |some z',some (_,dD)=>decide (z'.length=sz)&&decide (dD=bytes)&&qD z z'&&bJ x l&&bJ x c&&decide (0<bytes)
   |_,_=>false
  |none=>false
 |.ld agg n x,.load t a=>match tL P t,fK P t with
  |some I',some (n',_)=>agg==I'&&n==n'&&bJ x a
  |_,_=>false
 |.st n x y,.store t a b=>match fK P t with
  |some (n',_)=>n==n'&&bJ x a&&bJ y b
  |none=>false
 |.qp n x y,.store t a b=>match fK P t with
  |some (n',_)=>n==n'&&bJ x a&&bJ y b
  |none=>false
 |.r7 x off,.field t a f=>match P.underlying t with
  |some (.struct fs)=>match fs[f]? with
   |some fd=>off==fd.offset&&bJ x a&&tL P fd.type==some false
   |none=>false
  |_=>false
 |.oj x,.nilCheck a=>bJ x a
 |.iq x off,.fieldAddr t a f=>match r6 P t f with
  |some (uw,s)=>off==uw&&bJ x a&&s !=0
  |none=>false
 |.mz sz x i,.indexAddr t a b=>match gP P t with
  |some e=>match fK P e with
   |some (s,_)=>s==sz&&bJ x a&&bJ i b
   |none=>false
  |none=>false
 |.rA sz x lo hi,.slice t a mD fu mx=>mx.isNone&&bJ x a&&mg lo mD&&mg hi fu&&(match gP P t with|some e=>(match fK P e with|some (s,_)=>s==sz|none=>false)|none=>false)
 |.tm x lo hi,.slice t a mD fu mx=>mx.isNone&&bJ x a&&mg lo mD&&mg hi fu&&(match P.underlying t with|some .string=>true|_=>false)
 |.ext x k,.extract a k'=>bJ x a&&k==k'
 |.call f _ args,.call c=>match c.callee with
  |.value (.func f')=>f'==κ f&&pg args c.args.toList&&(match P.funcs[f']? with
   |some fn=>fn.body.isSome&&fn.name != "runtime.NumGoroutine"
   |none=>false)
  |_=>false
 |.jO f i args,.call c=>match c.callee with
  |.value (.func f')=>f'==κ f&&pg args c.args.toList&&decide (i<args.length)&&(match P.funcs[f']? with
   |some fn=>fn.body.isSome&&fn.name != "runtime.NumGoroutine"
   |none=>false)
  |_=>false
 |.kZ f x y,.call c=>match c.callee with
  |.value (.func f')=>f'==κ f&&f==503&&pg [x,y] c.args.toList&&(match P.funcs[f']? with
   |some fn=>fn.body.isSome&&fn.name != "runtime.NumGoroutine"
   |none=>false)
  |_=>false
 |.oS sz z x,.call c=>match c.callee,c.args.toList,c.argTypes.toList with
  |.builtin .clear,[a],[t]=>bJ x a&&(match gP P t with
   |some e=>(match o_ P e,fK P e with
    |some zv,some (s,_)=>s==sz&&qD z zv
    |_,_=>false)
   |none=>false)
  |_,_,_=>false
 |.sX g x,.makeFunc fn first captured=>match fn,captured.toList with
  |.func f,[c]=>f==jb g&&first.size==0&&bJ x c
  |_,_=>false
 |.mf x args,.call c=>match c.callee with
  |.value (.tmp t)=>bJ x (.tmp t)&&pg args c.args.toList
  |_=>false
 |.app sz bytes x y,.call c=>match c.callee,c.args.toList,c.argTypes.toList with
  |.builtin .append,[a,b],[t,u]=>bJ x a&&bJ y b&&(match gP P t,gP P u with
   |some e,some e'=>e==e'&&(match o_ P e,fK P e with
    |some z,some (s,dD)=>s==sz&&dD==bytes&&z.length==sz&&s !=0&&(bytes !=0)
    |_,_=>false)
   |_,_=>false)
  |_,_,_=>false
 |.apps x y,.call c=>match c.callee,c.args.toList,c.argTypes.toList with
  |.builtin .append,[a,b],[t,u]=>bJ x a&&bJ y b&&(match gP P t,P.underlying u with
   |some e,some .string=>(match o_ P e,fK P e with
    |some z,some (s,dD)=>s==1&&dD==1&&z.length==1
    |_,_=>false)
   |_,_=>false)
  |_,_,_=>false
 |.mP sz bytes x y,.call c=>match c.callee,c.args.toList,c.argTypes.toList with
  |.builtin .append,[a,b],[t,u]=>bJ x a&&bJ y b&&(match gP P t,gP P u with
   |some e,some e'=>e==e'&&(match o_ P e,fK P e with
    |some z,some (s,dD)=>s==sz&&dD==bytes&&z.length==sz&&s !=0&&(bytes !=0)
    |_,_=>false)
   |_,_=>false)
  |_,_,_=>false
 |.oT k x,.convert s t a=>bJ x a&&(match P.underlying s,P.underlying t with
  |some _,some (.int k')=>decide (k=k')
  |_,_=>false)
 |.ph x,.convert s t a=>bJ x a&&(match P.underlying s,P.underlying t with
  |some (.slice e),some .string=>(match P.underlying e with|some (.int .u8)=>true|_=>false)
  |_,_=>false)
 |.idx x i,.index t a b=>bJ x a&&bJ i b&&(match P.underlying t with|some .string=>true|_=>false)
 |.mn x y,.call c=>match c.callee,c.args.toList with
  |.builtin .min,[a,b]=>bJ x a&&bJ y b
  |_,_=>false
 |.mx x y,.call c=>match c.callee,c.args.toList with
  |.builtin .max,[a,b]=>bJ x a&&bJ y b
  |_,_=>false
 |_,_=>false
section
section
variable {P:Program} {κ:Nat→FuncId} {w0:World} {cl0:dv} {S:St} {w:World} {g:Gh} {a:Act} {Γ:Env} {d:Nat}
theorem BU {v:AV} {x:Value} {m:Ms} (h:uR v x=true):RA w g m v x∧v.refs=[]:=by
 unfold uR at h;split at h
 ·simp at h;obtain ⟨rfl,rfl⟩:=h;exact ⟨.v _ _ _ (.int _ _),rfl⟩
 ·simp at h;subst h;exact ⟨.v _ _ _ (.bool _),rfl⟩
 ·rename_i s s';simp at h;obtain rfl:s=s':=ByteArray.ext h;exact ⟨.v _ _ _ (.str _),rfl⟩
 ·simp at h;obtain ⟨rfl,rfl⟩:=h;exact ⟨.nl _,rfl⟩
 ·exact ⟨.un _,rfl⟩
 ·simp at h;subst h;exact ⟨.bu _ _ (by simp) (fun i a x h=>by simp at h),by simp [AV.refs,AV.b9]⟩
 ·cases h
theorem bF (R:Rel w0 cl0 S a.tmps w g) {x:PX} {o:Operand} (h:bJ x o=true):RA w g S.ms (S.ev x) (a.eval o)∧Live S.ms (S.ev x):=by
 unfold bJ at h;split at h
 ·simp at h;subst h;exact ⟨R.av _,fun r hr=>R.ey _ r hr⟩
 ·have:=BU (w:=w) (g:=g) (m:=S.ms) h;exact ⟨this.1,fun r hr=>by simp [St.ev,this.2] at hr⟩
 ·simp at h;subst h;exact ⟨.v _ _ _ (.fn _),fun r hr=>by simp [St.ev,AV.refs] at hr⟩
 ·cases h
theorem ou {m:Ms} {k:Bool} {kd:IntKind} {n:Int} {x:Value} (h:RA w g m (.v k (.int kd n)) x):x=.int kd n:=by
 cases h with|v _ _ _ h=>cases h;rfl
theorem yf {m:Ms} {k b:Bool} {x:Value} (h:RA w g m (.v k (.bool b)) x):x=.bool b:=by
 cases h with|v _ _ _ h=>cases h;rfl
theorem tj {m:Ms} {k:Bool} {s:ByteArray} {x:Value} (h:RA w g m (.v k (.str s)) x):x=.string s:=by
 cases h with|v _ _ _ h=>cases h;rfl
theorem tN {m:Ms} {v:AV} {n:Int} {x:Value} (ha:RA w g m v x) (h:v.asInt=some n):∃k,x=.int k n:=by
 unfold AV.asInt at h;split at h
 ·simp at h;subst h;exact ⟨_,ou ha⟩
 ·cases h
theorem yz {m:Ms} {v:AV} {b:Bool} {x:Value} (ha:RA w g m v x) (h:v.asBool=some b):x=.bool b:=by
 unfold AV.asBool at h;split at h
 ·simp at h;subst h;exact yf ha
 ·cases h
def IX (P:Program) (w:World) (g:Gh) (m:Ms) (av:AV) (s:Sem Next):Prop:=
 ∃v,s.run P w=.ok (.value v) w∧RA w g m av v∧Live m av
theorem aaa {m:Ms} {s:Sem Value} {v:Value} {av:AV} (h:s.run P w=.ok v w) (h1:RA w g m av v) (h2:Live m av):
 IX P w g m av (do pure (.value (←s))):=⟨v,by simp [h],h1,h2⟩
theorem jw {m:Ms} {k:Bool} {x:D}:Live m (.v k x):=fun r hr=>by simp [AV.refs] at hr
theorem RH {op:BinOp} {k k':IntKind} {x y:Int} {r:D} (h:pe op (.int k x) (.int k' y)=some r) (t:TypeId):
 ∃v,(zj op t (.int k x) (.int k' y)).run P w=.ok v w∧RO w g.cl false r v:=by
 simp only [pe] at h;cases op
 case shl|shr=>
  simp at h;obtain ⟨h0,rfl⟩:=h;simp only [zj,Op.shift];rw [if_neg (by omega)];exact ⟨_,rfl,.int _ _⟩
 case andNot=>simp at h
 case quo|rem=>
  by_cases hk:k=k'
  ·subst hk;simp at h;obtain ⟨h0,rfl⟩:=h;simp only [zj,Op.intDiv,ne_eq,not_true,if_false,if_neg h0];exact ⟨_,rfl,.int _ _⟩
  ·simp [hk] at h
 case add|sub|mul=>
  by_cases hk:k=k'
  ·subst hk;simp at h;subst h;simp only [zj,Op.intArith,ne_eq,not_true,if_false];exact ⟨_,rfl,.int _ _⟩
  ·simp [hk] at h
 case and|or|xor=>
  by_cases hk:k=k'
  ·subst hk;simp only [if_true,zB] at h;subst h;simp only [zj,Op.intBits,ne_eq,not_true,if_false];exact ⟨_,rfl,.int _ _⟩
  ·simp [hk] at h
 all_goals
  by_cases hk:k=k'
  ·subst hk;simp only [if_true,zB] at h;subst h;simp only [zj,Op.intCmp,ne_eq,not_true,if_false];exact ⟨_,rfl,.bool _⟩
  ·simp [hk] at h
theorem UN {op:BinOp} {x y:ByteArray} {r:D} (h:pe op (.str x) (.str y)=some r) (t:TypeId):
 ∃v,(zj op t (.string x) (.string y)).run P w=.ok v w∧RO w g.cl false r v:=by
 simp only [pe] at h;cases op
 case add=>
  by_cases hc:((x.size+y.size:Nat):Int)>IntKind.i64.max
  ·rw [if_pos hc] at h;cases h
  ·rw [if_neg hc] at h;cases h;simp only [zj,Op.stringOp];rw [if_neg hc];exact ⟨_,rfl,.str _⟩
 case eql|neq|lss|leq|gtr|geq=>
  simp only [zB] at h;subst h;simp only [zj,Op.stringOp];exact ⟨_,rfl,.bool _⟩
 all_goals cases h
theorem Uk {x y:Bool} {t:TypeId} (ht:P.underlying t=some .bool) (n:Nat):(Op.equalIn (n+1) t (.bool x) (.bool y)).run P w=.ok (x==y) w:=by
 simp [Op.equalIn,run_underlying ht]
theorem Uj {m:Ms}:∀(ks:List Nat) (fs:List Field) (i d:Nat) (xs ys:List AV) (vx vy:Array Value) (r:Bool),
 uz P i fs ks=true→pq ks xs ys=some r→
 (∀(q:Nat) (a:AV),xs[q]?=some a→∃x,vx[i+q]?=some x∧RA w g m a x)→(∀(q:Nat) (a:AV),ys[q]?=some a→∃x,vy[i+q]?=some x∧RA w g m a x)→
 (Op.eqFields (d+1) vx vy fs).run P w=.ok r w:=by
 intro ks;induction ks with
 |nil=>
  intro fs i d xs ys vx vy r hp he hx hy;cases fs with
  |nil=>
   cases xs<;>cases ys<;>simp [pq] at he;subst he;simp [Op.eqFields]
  |cons=>simp [uz] at hp
 |cons k ks ih=>
  intro fs i d xs ys vx vy r hp he hx hy;cases fs with
  |nil=>simp [uz] at hp
  |cons f fs=>
   simp only [uz,za,bne_iff_ne,ne_eq,beq_iff_eq] at hp;obtain ⟨⟨⟨hn,ho⟩,hk⟩,vZ⟩:=hp
   have fh:∀a o9,xs=a::o9→∀(q:Nat) (a:AV),o9[q]?=some a→∃x,vx[i+1+q]?=some x∧RA w g m a x:=by
    intro a o9 e q b hb;subst e;have:=hx (q+1) b (by simpa using hb);rwa [show i+(q+1)=i+1+q from by omega] at this
   have Dw:∀a o9,ys=a::o9→∀(q:Nat) (a:AV),o9[q]?=some a→∃x,vy[i+1+q]?=some x∧RA w g m a x:=by
    intro a o9 e q b hb;subst e;have:=hy (q+1) b (by simpa using hb);rwa [show i+(q+1)=i+1+q from by omega] at this
   have key:∀(u v:Value) (b r':Bool),vx[i]?=some u→vy[i]?=some v→(isAgg f.type).run P w=.ok false w→
    (Op.equalIn (d+1) f.type u v).run P w=.ok b w→(Op.eqFields (d+1) vx vy fs).run P w=.ok r' w→
    (Op.eqFields (d+1) vx vy (f::fs)).run P w=.ok (b&&r') w:=by
    intro u v b r' h1 h2 h3 h4 h5;simp only [Op.eqFields,hn,ne_eq,not_false_eq_true,if_true,Sem.run_bind,part,h3,Result.andThen_ok,zy,if_false,ho,h1,h2,Sem.run_pure,h4];cases b<;>simp [h5]
   unfold pq at he;split at he
   ·rename_i h;cases h
   ·rename_i h;cases h;split at he
    ·rename_i ug;split at he
     ·rename_i r' vX;cases he;subst ug;obtain ⟨u,iW,pK⟩:=hx 0 _ rfl;obtain ⟨v,aU,bB⟩:=hy 0 _ rfl;rw [ou pK] at iW;rw [ou bB] at aU;cases kP:P.underlying f.type with
      |none=>simp [kP] at hk
      |some t=>
       cases t<;>simp [kP] at hk;exact key _ _ _ _ iW aU (by simp [isAgg,run_underlying kP]) (run_equalIn_int w d f.type _ _ _ _ kP) (ih fs (i+1) d _ _ vx vy r' vZ vX (fh _ _ rfl) (Dw _ _ rfl))
     ·cases he
    ·cases he
   ·rename_i h;cases h;split at he
    ·rename_i r' vX;cases he;obtain ⟨u,iW,pK⟩:=hx 0 _ rfl;obtain ⟨v,aU,bB⟩:=hy 0 _ rfl;rw [yf pK] at iW;rw [yf bB] at aU;cases kP:P.underlying f.type with
     |none=>simp [kP] at hk
     |some t=>
      cases t<;>simp [kP] at hk;exact key _ _ _ _ iW aU (by simp [isAgg,run_underlying kP]) (run_equalIn_bool' w d f.type _ _ kP) (ih fs (i+1) d _ _ vx vy r' vZ vX (fh _ _ rfl) (Dw _ _ rfl))
    ·cases he
   ·rename_i h;cases h;split at he
    ·rename_i r' vX;cases he;obtain ⟨u,iW,pK⟩:=hx 0 _ rfl;obtain ⟨v,aU,bB⟩:=hy 0 _ rfl;rw [tj pK] at iW;rw [tj bB] at aU;cases kP:P.underlying f.type with
     |none=>simp [kP] at hk
     |some t=>
      cases t<;>simp [kP] at hk;exact key _ _ _ _ iW aU (by simp [isAgg,run_underlying kP]) (run_equalIn_string w d f.type _ _ kP) (ih fs (i+1) d _ _ vx vy r' vZ vX (fh _ _ rfl) (Dw _ _ rfl))
    ·cases he
   ·cases he
theorem Ul {t:TypeId} {ks:List Nat} (ht:Iq P t ks=true) {xs ys:List AV} {u v:Value} {m:Ms} {r:Bool}
 (h:pq ks xs ys=some r) (hx:RA w g m (.agg xs) u) (hy:RA w g m (.agg ys) v) {op:BinOp} {neg:Bool} (fg:op=if neg then .neq else .eql) (x y:Operand):
 (do eqGuard op t x y u v;zj op t u v:Sem Value).run P w=.ok (.bool (if neg then !r else r)) w:=by
 simp only [Iq,za,Bool.not_eq_true'] at ht;obtain ⟨⟨h1,h2⟩,h3⟩:=ht;cases hu:P.underlying t with
 |none=>simp [hu] at h3
 |some d=>
  cases d with
  |struct fs=>
   simp only [hu] at h3;have hf:P.underlying t=some (.struct (P.fieldsOf t)):=by simp [Program.fieldsOf,hu]
   have Pj:P.fieldsOf t=fs:=by simp [Program.fieldsOf,hu]
   cases hx with
   |agg _ vx mq Rr=>
    cases hy with
    |agg _ vy hly Ru=>
     have he:(Op.equalIn 10000 t (.agg vx) (.agg vy)).run P w=.ok r w:=by
      rw [run_equalIn_agg w 9999 t vx vy hf h1,Pj];refine Uj (g:=g) (m:=m) ks fs.toList 0 9998 xs ys vx vy r h3 h (fun q a ha=>?_) (fun q a ha=>?_)
      ·have hq:=bj ha;refine ⟨vx[q],by simp [show q<vx.size from by omega],Rr q a _ ha (by simp [show q<vx.size from by omega])⟩
      ·have hq:=bj ha;refine ⟨vy[q],by simp [show q<vy.size from by omega],Ru q a _ ha (by simp [show q<vy.size from by omega])⟩
     subst fg;simp only [Sem.run_bind,run_eqGuard_agg w _ t x y vx vy h2,Result.andThen_ok];cases neg
     ·simp only [zy,if_false,run_eql_struct w t vx vy,he,Result.andThen_ok]
     ·simp only [if_true,run_neq_struct w t vx vy,he,Result.andThen_ok]
  |_=>simp [hu] at h3
theorem So {t e:TypeId} {ty:TypeId} {b:Option Addr} {n c:Nat} (ht:P.underlying t=some (.slice e)):
 (Builtin.len_ #[t] ty #[.slice b n c]).run P w=.ok (.int .i64 n) w:=by
 simp [Builtin.len_,run_underlying ht,goInt]
theorem Sp {t:TypeId} {ty:TypeId} {s:ByteArray} (ht:P.underlying t=some .string):
 (Builtin.len_ #[t] ty #[.string s]).run P w=.ok (.int .i64 s.size) w:=by
 simp [Builtin.len_,run_underlying ht,goInt]
end
end
section
section
variable {P:Program} {κ:Nat→FuncId} {w0:World} {cl0:dv} {S:St} {w:World} {g:Gh} {a:Act} {Γ:Env} {d:Nat}
def fl (P:Program) (S:St) (w:World) (g:Gh) (a:Act) (av:AV) (rt:Option Rt) (m':Ms) (op:Op):Prop:=
 rt=none∧m'=S.ms∧∀o:Oper,o.op=op→IX P w g S.ms av (execOp a.eval o)
theorem Tr (R:Rel w0 cl0 S a.tmps w g) {x:PX} {op:Op} {av:AV} {rt:Option Rt} {m':Ms} (hc:aM P κ (.mv x) op=true)
 (h:aw Γ S.ev d S.ms (.mv x)=some (av,rt,m')):fl P S w g a av rt m' op:=by
 simp [aw] at h;obtain ⟨rfl,rfl,rfl⟩:=h;refine ⟨rfl,rfl,fun o ho=>?_⟩;cases op<;>simp [aM] at hc
 all_goals
  have:=bF R hc;exact ⟨_,by simp [execOp,ho],this.1,this.2⟩
theorem Tw (R:Rel w0 cl0 S a.tmps w g) {c x y:PX} {op:Op} {av:AV} {rt:Option Rt} {m':Ms} (hc:aM P κ (.pick c x y) op=true)
 (h:aw Γ S.ev d S.ms (.pick c x y)=some (av,rt,m')):fl P S w g a av rt m' op:=by
 simp only [aw] at h;split at h
 ·rename_i t ht;simp at h;obtain ⟨rfl,rfl,rfl⟩:=h;refine ⟨rfl,rfl,fun o ho=>?_⟩;cases op<;>simp [aM] at hc;obtain ⟨⟨h1,h2⟩,h3⟩:=hc;have e1:=yz (bF R h1).1 ht;have e2:=bF R h2;have e3:=bF R h3;cases t
  ·exact ⟨_,by simp [execOp,ho,e1,asBool],e3.1,e3.2⟩
  ·exact ⟨_,by simp [execOp,ho,e1,asBool],e2.1,e2.2⟩
 ·cases h
theorem S4 (R:Rel w0 cl0 S a.tmps w g) {yA:BinOp} {x y:PX} {op:Op} {av:AV} {rt:Option Rt} {m':Ms} (hc:aM P κ (.bin yA x y) op=true)
 (h:aw Γ S.ev d S.ms (.bin yA x y)=some (av,rt,m')):fl P S w g a av rt m' op:=by
 simp only [aw] at h;split at h
 ·rename_i k1 d1 k2 d2 hx hy;split at h
  ·rename_i r hr;simp at h;obtain ⟨rfl,rfl,rfl⟩:=h;refine ⟨rfl,rfl,fun o ho=>?_⟩;cases op with
   |binOp WG t ox oy ty=>?_
   |_=>simp [aM] at hc
   simp [aM] at hc;obtain ⟨⟨rfl,h2⟩,h3⟩:=hc;have e2:=(bF R h2).1;have e3:=(bF R h3).1;rw [hx] at e2;rw [hy] at e3;cases d1 with
   |int=>
    cases d2 with
    |int=>
     obtain ⟨v,h5,h6⟩:=RH (P:=P) (w:=w) (g:=g) hr t;exact ⟨v,by simp [execOp,ho,ou e2,ou e3,eqGuard_at_int,h5],.v _ _ _ h6,jw⟩
    |_=>simp [pe] at hr
   |str=>
    cases d2 with
    |str=>
     obtain ⟨v,h5,h6⟩:=UN (P:=P) (w:=w) (g:=g) hr t;exact ⟨v,by simp [execOp,ho,tj e2,tj e3,eqGuard_at_string,h5],.v _ _ _ h6,jw⟩
    |_=>simp [pe] at hr
   |_=>simp [pe] at hr
  ·cases h
 ·cases h
theorem Tf (R:Rel w0 cl0 S a.tmps w g) {neg:Bool} {ks:List Nat} {x y:PX} {op:Op} {av:AV} {rt:Option Rt} {m':Ms}
 (hc:aM P κ (.eqs neg ks x y) op=true) (h:aw Γ S.ev d S.ms (.eqs neg ks x y)=some (av,rt,m')):fl P S w g a av rt m' op:=by
 simp only [aw] at h;split at h
 ·rename_i xs ys hx hy;split at h
  ·rename_i r hr;simp at h;obtain ⟨rfl,rfl,rfl⟩:=h;refine ⟨rfl,rfl,fun o ho=>?_⟩;cases op<;>simp [aM] at hc;obtain ⟨⟨⟨h1,h2⟩,h3⟩,h4⟩:=hc;have e2:=(bF R h2).1;have e3:=(bF R h3).1;rw [hx] at e2;rw [hy] at e3;rename_i yA t ox oy ty;have:=Ul h4 hr e2 e3 (by simpa using h1) ox oy;simp only [Sem.run_bind] at this;exact ⟨_,by simp only [execOp,ho,Sem.run_bind,this,Result.andThen_ok,Sem.run_pure],.v _ _ _ (.bool _),jw⟩
  ·cases h
 ·cases h
theorem Te (R:Rel w0 cl0 S a.tmps w g) {neg:Bool} {x y:PX} {op:Op} {av:AV} {rt:Option Rt} {m':Ms}
 (hc:aM P κ (.kK neg x y) op=true) (h:aw Γ S.ev d S.ms (.kK neg x y)=some (av,rt,m')):fl P S w g a av rt m' op:=by
 simp only [aw] at h;split at h
 ·rename_i b1 b2 hx hy;simp at h;obtain ⟨rfl,rfl,rfl⟩:=h;refine ⟨rfl,rfl,fun o ho=>?_⟩;cases op<;>simp [aM] at hc;obtain ⟨⟨⟨h1,h2⟩,h3⟩,h4⟩:=hc;have e2:=yz (bF R h2).1 hx;have e3:=yz (bF R h3).1 hy;rename_i yA t ox oy ty
  have hu:P.underlying t=some .bool:=by
   cases hu:P.underlying t with
   |none=>simp [hu] at h4
   |some u=>cases u<;>simp [hu] at h4 ⊢
  have he:(Op.equal t (.bool b1) (.bool b2)).run P w=.ok (b1==b2) w:=Uk hu 9999;subst h1;cases neg
  ·exact ⟨_,by simp [execOp,ho,e2,e3,eqGuard_at_bool,zj,he],.v _ _ _ (.bool _),jw⟩
  ·exact ⟨_,by simp [execOp,ho,e2,e3,eqGuard_at_bool,zj,he],.v _ _ _ (.bool _),jw⟩
 ·cases h
theorem TC (R:Rel w0 cl0 S a.tmps w g) {Bj:UnOp} {x:PX} {op:Op} {av:AV} {rt:Option Rt} {m':Ms}
 (hc:aM P κ (.un Bj x) op=true) (h:aw Γ S.ev d S.ms (.un Bj x)=some (av,rt,m')):fl P S w g a av rt m' op:=by
 simp only [aw] at h;split at h
 ·rename_i k d1 hx;split at h
  ·rename_i r hr;simp at h;obtain ⟨rfl,rfl,rfl⟩:=h;refine ⟨rfl,rfl,fun o ho=>?_⟩;cases op<;>simp [aM] at hc;obtain ⟨rfl,h2⟩:=hc;have e2:=(bF R h2).1;rw [hx] at e2;cases d1 with
   |int=>
    cases Bj<;>simp [yl] at hr;subst hr;exact ⟨_,by simp [execOp,ho,ou e2,Op.unary,Op.intArith],.v _ _ _ (.int _ _),jw⟩
   |bool=>
    cases Bj<;>simp [yl] at hr;subst hr;exact ⟨_,by simp [execOp,ho,yf e2,Op.unary],.v _ _ _ (.bool _),jw⟩
   |_=>simp [yl] at hr
  ·cases h
 ·cases h
theorem rN {b:Builtin} {args:List Operand} {MA:List TypeId} {c:Call} (h1:c.callee=.builtin b) (h2:c.args.toList=args) (h3:c.argTypes.toList=MA)
 {o:Oper} (ho:o.op=.call c):∃cs,execOp a.eval o=builtin b MA.toArray o.type cs (args.map a.eval).toArray:=by
 obtain ⟨WJ,ar,Je⟩:=c;obtain ⟨ar⟩:=ar;obtain ⟨Je⟩:=Je;simp only at h1 h2 h3;subst h1 h2 h3;refine ⟨(ar.toArray.map fun|.const _=>true|_=>false),?_⟩;simp only [execOp,ho,resolve,pure_bind,invoke,List.map_toArray];rfl
theorem Tm (R:Rel w0 cl0 S a.tmps w g) {x:PX} {op:Op} {av:AV} {rt:Option Rt} {m':Ms}
 (hc:aM P κ (.len x) op=true) (h:aw Γ S.ev d S.ms (.len x)=some (av,rt,m')):fl P S w g a av rt m' op:=by
 cases op with
 |call c=>?_
 |_=>simp [aM] at hc
 simp only [aM] at hc;split at hc
 ·rename_i a1 t1 lj dR pJ;simp only [za] at hc;obtain ⟨h1,h2⟩:=hc;have e1:=(bF R h1).1;simp only [aw] at h;split at h
  ·rename_i sz es oX;simp at h;obtain ⟨rfl,rfl,rfl⟩:=h;refine ⟨rfl,rfl,fun o ho=>?_⟩;obtain ⟨cs,hx⟩:=rN lj dR pJ ho;obtain ⟨b,cap,hv,_⟩:=B3 R e1 oX;cases hu:P.underlying t1 with
   |none=>simp [hu] at h2
   |some u=>
    cases u<;>simp [hu] at h2;rw [hx];refine ⟨_,?_,.v _ _ _ (.int _ _),jw⟩;simp [builtin,hv,So hu]
  ·cases h
 ·cases hc
theorem Tn (R:Rel w0 cl0 S a.tmps w g) {x:PX} {op:Op} {av:AV} {rt:Option Rt} {m':Ms}
 (hc:aM P κ (.lens x) op=true) (h:aw Γ S.ev d S.ms (.lens x)=some (av,rt,m')):fl P S w g a av rt m' op:=by
 cases op with
 |call c=>?_
 |_=>simp [aM] at hc
 simp only [aM] at hc;split at hc
 ·rename_i a1 t1 lj dR pJ;simp only [za] at hc;obtain ⟨h1,h2⟩:=hc;have e1:=(bF R h1).1;simp only [aw] at h;split at h
  ·rename_i k s oX;simp at h;obtain ⟨rfl,rfl,rfl⟩:=h;refine ⟨rfl,rfl,fun o ho=>?_⟩;obtain ⟨cs,hx⟩:=rN lj dR pJ ho;rw [oX] at e1;cases hu:P.underlying t1 with
   |none=>simp [hu] at h2
   |some u=>
    cases u<;>simp [hu] at h2;rw [hx];refine ⟨_,?_,.v _ _ _ (.int _ _),jw⟩;simp [builtin,tj e1,Sp hu]
  ·cases h
 ·cases hc
theorem Tl (R:Rel w0 cl0 S a.tmps w g) {agg:Bool} {n:Nat} {x:PX} {op:Op} {av:AV} {rt:Option Rt} {m':Ms}
 (hc:aM P κ (.ld agg n x) op=true) (h:aw Γ S.ev d S.ms (.ld agg n x)=some (av,rt,m')):fl P S w g a av rt m' op:=by
 cases op with
 |load t ox=>?_
 |_=>simp [aM] at hc
 simp only [aM] at hc;split at hc
 ·rename_i I' n' dD ha hs;simp only [za,beq_iff_eq] at hc;obtain ⟨⟨rfl,rfl⟩,h1⟩:=hc;have e1:=(bF R h1).1;simp only [aw] at h;split at h
  ·rename_i l hl;obtain ⟨b,off,xs,hv,sO,ud,dF,bZ⟩:=LB R e1 hl
   have dg:∀w1,(sizeOf t).run P w1=.ok n w1:=by
    intro w1;unfold fK at hs;split at hs
    ·rename_i i hi;simp at hs;simp [sizeOf,typeInfo,hi,hs.1]
    ·cases hs
   unfold tL at ha;cases agg
   ·have iR:(isAgg t).run P w=.ok false w:=by
     cases hu:P.underlying t with
     |none=>simp [hu] at ha
     |some u=>cases u<;>simp [hu] at ha<;>simp [isAgg,run_underlying hu]
    simp only [zy,if_false] at h;split at h
    ·rename_i a1;simp at h;obtain ⟨rfl,rfl,rfl⟩:=h;refine ⟨rfl,rfl,fun o ho=>?_⟩;simp at ud;subst ud
     obtain ⟨x1,rfl⟩:∃x1,xs=[x1]:=by
      match xs,sO with
      |[x1],_=>exact ⟨x1,rfl⟩
     have h3:=bZ 0 a1 x1 rfl rfl;have h4:=dF 0 x1 rfl;exact ⟨x1,by simp [execOp,ho,Instr.loadAt,hv,Instr.sureAddr,loadVar,iR,show w.cell? ⟨b,off,none⟩=some x1 from h4],h3.1,h3.2⟩
    ·cases h
   ·have iR:(isAgg t).run P w=.ok true w:=by
     cases hu:P.underlying t with
     |none=>simp [hu] at ha
     |some u=>cases u<;>simp [hu] at ha<;>simp [isAgg,run_underlying hu]
    simp at h;obtain ⟨rfl,rfl,rfl⟩:=h;refine ⟨rfl,rfl,fun o ho=>?_⟩;have Qf:=xm P sO dF;refine ⟨.agg xs.toArray,by simp [execOp,ho,Instr.loadAt,hv,Instr.sureAddr,loadVar,iR,dg w,Qf],.agg _ _ (by simp;omega) (fun i av x h1 h2=>(bZ i av x h1 (by simpa using h2)).1),?_⟩;intro r hr;simp only [AV.refs] at hr
    have:∀(l:List AV),(∀(k:Nat) av,l[k]?=some av→Live S.ms av)→r∈AV.b9 l→((S.ms r).1).isSome:=by
     intro l;induction l with
     |nil=>intro _ h;simp [AV.b9] at h
     |cons b bs ih=>
      intro h1 h2;simp only [AV.b9,zO] at h2;rcases h2 with h2|h2
      ·exact h1 0 b rfl r h2
      ·exact ih (fun k av hk=>h1 (k+1) av hk) h2
    refine this l (fun k av hk=>?_) hr;have ah:=bj hk;exact (bZ k av xs[k] hk (by simp [show k<xs.length from by omega])).2
  ·cases h
 ·cases hc
end
end
section
section
variable {P:Program} {κ:Nat→FuncId} {w0:World} {cl0:dv} {S:St} {w:World} {g:Gh} {a:Act} {Γ:Env} {d:Nat}
theorem Tu (R:Rel w0 cl0 S a.tmps w g) {x:PX} {op:Op} {av:AV} {rt:Option Rt} {m':Ms}
 (hc:aM P κ (.oj x) op=true) (h:aw Γ S.ev d S.ms (.oj x)=some (av,rt,m')):fl P S w g a av rt m' op:=by
 cases op with
 |nilCheck ox=>?_
 |_=>simp [aM] at hc
 simp only [aM] at hc;have e1:=bF R hc;simp only [aw] at h;split at h
 ·rename_i r j hx;simp at h;obtain ⟨rfl,rfl,rfl⟩:=h;refine ⟨rfl,rfl,fun o ho=>?_⟩;rw [hx] at e1;obtain ⟨h1,h2⟩:=e1;generalize hv:a.eval ox=v at h1;cases h1 with
  |bx=>exact ⟨_,by simp [execOp,ho,hv],.bx _ _,h2⟩
 ·rename_i k d0 ds hx;simp at h;obtain ⟨rfl,rfl,rfl⟩:=h;refine ⟨rfl,rfl,fun o ho=>?_⟩;rw [hx] at e1;obtain ⟨h1,h2⟩:=e1;generalize hv:a.eval ox=v at h1;have h0:=h1;cases h1 with
  |v _ _ _ hr=>
   cases hr with
   |rp _ b=>exact ⟨_,by simp [execOp,ho,hv],h0,h2⟩
 ·rename_i hx;simp at h;obtain ⟨rfl,rfl,rfl⟩:=h;refine ⟨rfl,rfl,fun o ho=>?_⟩;rw [hx] at e1;obtain ⟨h1,h2⟩:=e1;generalize hv:a.eval ox=v at h1;have h0:=h1;cases h1 with
  |ad=>exact ⟨_,by simp [execOp,ho,hv],h0,h2⟩
 ·rename_i hx;simp at h;obtain ⟨rfl,rfl,rfl⟩:=h;refine ⟨rfl,rfl,fun o ho=>?_⟩;rw [hx] at e1;obtain ⟨h1,h2⟩:=e1;generalize hv:a.eval ox=v at h1;have h0:=h1;cases h1 with
  |ra=>exact ⟨_,by simp [execOp,ho,hv],h0,h2⟩
 ·cases h
theorem Iv {t:TypeId} {f off s:Nat} (hf:r6 P t f=some (off,s)) (hs:s≠0) (b o:Nat):
 (Instr.fieldAt t (.pointer (some ⟨b,o,none⟩)) f).run P w=.ok (.pointer (some ⟨b,o+off,none⟩)) w:=by
 unfold r6 at hf;split at hf
 ·rename_i fs hu;split at hf
  ·rename_i fd pz;split at hf
   ·rename_i i hi;simp at hf;obtain ⟨rfl,rfl⟩:=hf;simp [Instr.fieldAt,run_underlying hu,pz,Instr.sureAddr,fieldPlace,sizeOf,typeInfo,hi,hs,Addr.add_lit]
   ·cases hf
  ·cases hf
 ·cases hf
theorem Th (R:Rel w0 cl0 S a.tmps w g) {x:PX} {off:Nat} {op:Op} {av:AV} {rt:Option Rt} {m':Ms}
 (hc:aM P κ (.iq x off) op=true) (h:aw Γ S.ev d S.ms (.iq x off)=some (av,rt,m')):fl P S w g a av rt m' op:=by
 cases op with
 |fieldAddr t ox f=>?_
 |_=>simp [aM] at hc
 simp only [aM] at hc;split at hc
 ·rename_i uw s hf;simp only [za,beq_iff_eq,bne_iff_ne,ne_eq] at hc;obtain ⟨⟨rfl,hc⟩,hs⟩:=hc;have e1:=bF R hc;simp only [aw] at h;split at h
  ·rename_i r j hx;simp at h;obtain ⟨rfl,rfl,rfl⟩:=h;refine ⟨rfl,rfl,fun o ho=>?_⟩;rw [hx] at e1;obtain ⟨h1,h2⟩:=e1;generalize hv:a.eval ox=v at h1;cases h1 with
   |bx=>exact ⟨_,by simp [execOp,ho,hv,Iv hf hs],.bx _ _,h2⟩
  ·rename_i r j p sz i c hx;simp at h;obtain ⟨rfl,rfl,rfl⟩:=h;refine ⟨rfl,rfl,fun o ho=>?_⟩;rw [hx] at e1;obtain ⟨h1,h2⟩:=e1;generalize hv:a.eval ox=v at h1;cases h1 with
   |ad _ _ _ _ _ _ b o1 hh=>
    refine ⟨_,by simp [execOp,ho,hv,Iv hf hs],.ad _ _ _ _ _ _ b (o1+off) fun hk=>?_,h2⟩;have:=hh hk;unfold pb at this ⊢;split at this
    ·simp at this;simp [this];omega
    ·cases this
  ·rename_i k sz es i c hx;simp at h;obtain ⟨rfl,rfl,rfl⟩:=h;refine ⟨rfl,rfl,fun o ho=>?_⟩;rw [hx] at e1;obtain ⟨h1,h2⟩:=e1;generalize hv:a.eval ox=v at h1;cases h1 with
   |ra _ _ _ _ _ b LI cap dz hi=>
    exact ⟨_,by simp only [execOp,ho,hv,Sem.run_bind,Iv hf hs,Result.andThen_ok,Sem.run_pure];rw [zR],.ra _ _ _ _ _ b LI cap dz hi,h2⟩
  ·cases h
 ·cases hc
theorem Iw {t e:TypeId} {s dD:Nat} (ht:gP P t=some e) (hs:fK P e=some (s,dD)) {k:IntKind} {n:Int} {b o len cap:Nat}
 (h0:0≤n) (h1:n<len):(Instr.indexAt t (.slice (some ⟨b,o,none⟩) len cap) (.int k n)).run P w=.ok (.pointer (some ⟨b,o+n.toNat*s,none⟩)) w:=by
 unfold gP at ht;split at ht
 ·rename_i e' hu;simp at ht;subst ht;unfold fK at hs;split at hs
  ·rename_i i hi;simp at hs;obtain ⟨rfl,rfl⟩:=hs;simp [Instr.indexAt,asIntOf,run_underlying hu,h0,h1,sizeOf,typeInfo,hi,Addr.add_lit]
  ·cases hs
 ·cases ht
theorem Tj (R:Rel w0 cl0 S a.tmps w g) {sz:Nat} {x i:PX} {op:Op} {av:AV} {rt:Option Rt} {m':Ms}
 (hc:aM P κ (.mz sz x i) op=true) (h:aw Γ S.ev d S.ms (.mz sz x i)=some (av,rt,m')):fl P S w g a av rt m' op:=by
 cases op with
 |indexAddr t ox oi=>?_
 |_=>simp [aM] at hc
 simp only [aM] at hc;split at hc
 ·rename_i e he;split at hc
  ·rename_i s dD hs;simp only [za,beq_iff_eq] at hc;obtain ⟨⟨rfl,mZ⟩,qP⟩:=hc;have e1:=bF R mZ;have e2:=bF R qP;simp only [aw] at h;split at h
   ·rename_i n hn;obtain ⟨k,hk⟩:=tN e2.1 hn;split at h
    ·rename_i kk dQ es hx;split at h
     ·rename_i cN;obtain ⟨h0,h1,rfl⟩:=cN;simp at h;obtain ⟨rfl,rfl,rfl⟩:=h;refine ⟨rfl,rfl,fun o ho=>?_⟩;rw [hx] at e1;obtain ⟨h2,h3⟩:=e1;generalize hv:a.eval ox=v at h2;cases h2 with
      |v _ _ _ dz=>
       cases dz with
       |emp=>simp at h1;omega
       |sl _ _ b off cap bA hl cf dx jW=>
        refine ⟨.pointer (some ⟨b,off+n.toNat*dQ+0,none⟩),?_,.ra _ _ _ _ 0 b off cap (.sl _ _ b off cap bA hl cf dx jW) (by omega),fun r hr=>by simp [AV.refs] at hr⟩;simp only [execOp,ho,hv,hk,Sem.run_bind,Iw he hs h0 h1,Result.andThen_ok,Sem.run_pure,Nat.add_zero]
     ·cases h
    ·rename_i r j p hx;split at h
     ·rename_i dQ es bz;split at h
      ·rename_i cN;obtain ⟨h0,h1,rfl⟩:=cN;simp at h;obtain ⟨rfl,rfl,rfl⟩:=h;refine ⟨rfl,rfl,fun o ho=>?_⟩;rw [hx] at e1;obtain ⟨h2,h3⟩:=e1;generalize hv:a.eval ox=v at h2;cases h2 with
       |pl _ _ _ _ _ _ hh=>
        obtain ⟨eg,bX,d0,bP,_⟩:=fo bz;obtain ⟨x0,bf⟩:=R.at bz;have pL:=hh eg;have pM:=bf.ir;subst pM;generalize hg:g.hd (r+1) j p=v0 at bf pL;cases bf with
        |nil=>simp at h1;omega
        |sl _ _ _ b off cap vals E bY bA hl cf PZ hN gI=>
         rw [pL] at hv;refine ⟨.pointer (some ⟨b,off+n.toNat*dQ,none⟩),?_,.ad _ _ _ _ _ _ b _ fun _=>?_,fun r1 hr=>?_⟩
         ·simp only [execOp,ho,hv,hk,Sem.run_bind,Iw he hs h0 h1,Result.andThen_ok,Sem.run_pure]
         ·simp [hg,pb]
         ·simp [AV.refs] at hr;subst hr;exact ur bP
      ·cases h
     ·cases h
    ·rename_i r j p dQ lo hi hx;split at h
     ·rename_i es sa;split at h
      ·rename_i cN;obtain ⟨h0,h1,rfl⟩:=cN;simp at h;obtain ⟨rfl,rfl,rfl⟩:=h;refine ⟨rfl,rfl,fun o ho=>?_⟩;obtain ⟨mh,bz,Qk,ni,rfl⟩:=yQ sa;rw [hx] at e1;obtain ⟨h2,h3⟩:=e1;generalize hv:a.eval ox=v at h2;have hlen:((mh.take hi).drop lo).length=hi-lo:=by simp;omega
       rw [hlen] at h1;cases h2 with
       |rg _ _ _ _ _ _ _ _ _ hh=>
        obtain ⟨eg,bX,d0,bP,_⟩:=fo bz;obtain ⟨x0,bf⟩:=R.at bz;have pL:=hh eg;have pM:=bf.ir;subst pM;generalize hg:g.hd (r+1) j p=v0 at bf pL;cases bf with
        |nil=>simp at ni;omega
        |sl _ _ _ b off cap vals E bY bA hl cf PZ hN gI=>
         have cg:cap≠lo:=by omega
         simp only [iJ,if_neg cg,zQ,Addr.add_lit] at pL;rw [pL] at hv;refine ⟨.pointer (some ⟨b,off+lo*dQ+n.toNat*dQ,none⟩),?_,.ad _ _ _ _ _ _ b _ fun _=>?_,fun r1 hr=>?_⟩
         ·simp only [execOp,ho,hv,hk,Sem.run_bind,Iw he hs h0 h1,Result.andThen_ok,Sem.run_pure]
         ·simp [hg,pb,zG];omega
         ·simp [AV.refs] at hr;subst hr;exact ur bP
      ·cases h
     ·cases h
    ·cases h
   ·cases h
  ·cases hc
 ·cases hc
theorem Tg (R:Rel w0 cl0 S a.tmps w g) {x:PX} {k:Nat} {op:Op} {av:AV} {rt:Option Rt} {m':Ms}
 (hc:aM P κ (.ext x k) op=true) (h:aw Γ S.ev d S.ms (.ext x k)=some (av,rt,m')):fl P S w g a av rt m' op:=by
 cases op with
 |extract ox k'=>?_
 |_=>simp [aM] at hc
 simp only [aM,za,beq_iff_eq] at hc;obtain ⟨hc,rfl⟩:=hc;have e1:=bF R hc;simp only [aw] at h;split at h
 ·rename_i cs hx;split at h
  ·rename_i a1 jS;simp at h;obtain ⟨rfl,rfl,rfl⟩:=h;refine ⟨rfl,rfl,fun o ho=>?_⟩;rw [hx] at e1;obtain ⟨h1,h2⟩:=e1;generalize hv:a.eval ox=v at h1;cases h1 with
   |bu _ vs hl bZ=>
    have ah:=bj jS;have hg:vs[k]?=some vs[k]:=by simp [show k<vs.size from by omega]
    exact ⟨vs[k],by simp [execOp,ho,hv,Instr.extract,hg],bZ k a1 _ jS hg,fun r hr=>h2 r (by simpa [AV.refs] using xn jS hr)⟩
  ·cases h
 ·cases h
theorem Ti (R:Rel w0 cl0 S a.tmps w g) {x:PX} {k:Nat} {op:Op} {av:AV} {rt:Option Rt} {m':Ms}
 (hc:aM P κ (.r7 x k) op=true) (h:aw Γ S.ev d S.ms (.r7 x k)=some (av,rt,m')):fl P S w g a av rt m' op:=by
 cases op with
 |field t ox f=>?_
 |_=>simp [aM] at hc
 simp only [aM] at hc;split at hc
 ·rename_i fs hu;split at hc
  ·rename_i fd pz;simp only [za,beq_iff_eq] at hc;obtain ⟨⟨rfl,hc⟩,ha⟩:=hc;have e1:=bF R hc
   have iR:(isAgg fd.type).run P w=.ok false w:=by
    unfold tL at ha;cases hu:P.underlying fd.type with
    |none=>simp [hu] at ha
    |some u=>cases u<;>simp [hu] at ha<;>simp [isAgg,run_underlying hu]
   simp only [aw] at h;split at h
   ·rename_i cs hx;split at h
    ·rename_i a1 jS;simp at h;obtain ⟨rfl,rfl,rfl⟩:=h;refine ⟨rfl,rfl,fun o ho=>?_⟩;rw [hx] at e1;obtain ⟨h1,h2⟩:=e1;generalize hv:a.eval ox=v at h1;cases h1 with
     |agg _ vs hl bZ=>
      have ah:=bj jS;have hg:vs[fd.offset]?=some vs[fd.offset]:=by simp [show fd.offset<vs.size from by omega]
      exact ⟨vs[fd.offset],by simp [execOp,ho,hv,Instr.field,run_underlying hu,pz,asAgg,part,iR,hg],bZ _ a1 _ jS hg,fun r hr=>h2 r (by simpa [AV.refs] using xn jS hr)⟩
    ·cases h
   ·cases h
  ·cases hc
 ·cases hc
theorem Tc (R:Rel w0 cl0 S a.tmps w g) {x:PX} {k:IntKind} {op:Op} {av:AV} {rt:Option Rt} {m':Ms}
 (hc:aM P κ (.oT k x) op=true) (h:aw Γ S.ev d S.ms (.oT k x)=some (av,rt,m')):fl P S w g a av rt m' op:=by
 cases op with
 |convert s t ox=>?_
 |_=>simp [aM] at hc
 simp only [aM,za] at hc;obtain ⟨mZ,hc⟩:=hc;have e1:=bF R mZ;simp only [aw] at h;split at h
 ·rename_i kk k1 n hx;simp at h;obtain ⟨rfl,rfl,rfl⟩:=h;refine ⟨rfl,rfl,fun o ho=>?_⟩;rw [hx] at e1;have hv:=ou e1.1;split at hc
  ·rename_i u1 k' h1 h2;simp at hc;subst hc;refine ⟨.int k (k.wrap n),?_,.v _ _ _ (.int _ _),jw⟩;simp [execOp,ho,hv,convert,run_underlying h1,run_underlying h2,Conv.intToInt]
  ·cases hc
 ·cases h
theorem Tk (R:Rel w0 cl0 S a.tmps w g) {x i:PX} {op:Op} {av:AV} {rt:Option Rt} {m':Ms}
 (hc:aM P κ (.idx x i) op=true) (h:aw Γ S.ev d S.ms (.idx x i)=some (av,rt,m')):fl P S w g a av rt m' op:=by
 cases op with
 |index t ox oi=>?_
 |_=>simp [aM] at hc
 simp only [aM,za] at hc;obtain ⟨⟨mZ,qP⟩,hc⟩:=hc;have e1:=bF R mZ;have e2:=bF R qP;simp only [aw] at h;split at h
 ·rename_i kk s n hx hn;split at h
  ·rename_i h0;split at h
   ·rename_i b hb;simp at h;obtain ⟨rfl,rfl,rfl⟩:=h;refine ⟨rfl,rfl,fun o ho=>?_⟩;rw [hx] at e1;have hv:=tj e1.1;obtain ⟨k,hk⟩:=tN e2.1 hn;cases hu:P.underlying t with
    |none=>simp [hu] at hc
    |some u=>
     cases u<;>simp [hu] at hc
     have Pr:s[n.toNat]?=some b:=by
      rw [ByteArray.toList_eq] at hb;have ah:=bj hb;rw [List.getElem?_eq_getElem ah] at hb;have QP:n.toNat<s.size:=by simpa using ah
      rw [getElem?_pos s n.toNat QP];have hd:s[n.toNat]=s.data[n.toNat]:=rfl;rw [hd];simpa using hb
     refine ⟨.int .u8 b.toNat,?_,.v _ _ _ (.int _ _),jw⟩;simp [execOp,ho,hv,hk,Instr.index,asIntOf,run_underlying hu,h0,Pr]
   ·cases h
  ·cases h
 ·cases h
theorem Tq (R:Rel w0 cl0 S a.tmps w g) {x y:PX} {op:Op} {av:AV} {rt:Option Rt} {m':Ms}
 (hc:aM P κ (.mn x y) op=true) (h:aw Γ S.ev d S.ms (.mn x y)=some (av,rt,m')):fl P S w g a av rt m' op:=by
 cases op with
 |call c=>?_
 |_=>simp [aM] at hc
 simp only [aM] at hc;split at hc
 ·rename_i a1 a2 lj dR;simp only [za] at hc;obtain ⟨h1,h2⟩:=hc;have e1:=(bF R h1).1;have e2:=(bF R h2).1;simp only [aw] at h;split at h
  ·rename_i k1 ka na k2 kb nb hx hy;simp at h;obtain ⟨rfl,rfl,rfl⟩:=h;refine ⟨rfl,rfl,fun o ho=>?_⟩;obtain ⟨cs,fh⟩:=rN (a:=a) lj dR rfl ho;rw [hx] at e1;rw [hy] at e2;rw [fh];refine ⟨_,?_,.v _ _ _ (.int _ _),jw⟩;simp [builtin,Builtin.min_,ou e1,ou e2,Builtin.min2]
  ·cases h
 ·cases hc
theorem Tt (R:Rel w0 cl0 S a.tmps w g) {x y:PX} {op:Op} {av:AV} {rt:Option Rt} {m':Ms}
 (hc:aM P κ (.mx x y) op=true) (h:aw Γ S.ev d S.ms (.mx x y)=some (av,rt,m')):fl P S w g a av rt m' op:=by
 cases op with
 |call c=>?_
 |_=>simp [aM] at hc
 simp only [aM] at hc;split at hc
 ·rename_i a1 a2 lj dR;simp only [za] at hc;obtain ⟨h1,h2⟩:=hc;have e1:=(bF R h1).1;have e2:=(bF R h2).1;simp only [aw] at h;split at h
  ·rename_i k1 ka na k2 kb nb hx hy;simp at h;obtain ⟨rfl,rfl,rfl⟩:=h;refine ⟨rfl,rfl,fun o ho=>?_⟩;obtain ⟨cs,fh⟩:=rN (a:=a) lj dR rfl ho;rw [hx] at e1;rw [hy] at e2;rw [fh];refine ⟨_,?_,.v _ _ _ (.int _ _),jw⟩;simp [builtin,Builtin.max_,ou e1,ou e2,Builtin.max2]
  ·cases h
 ·cases hc
end
end
end Go.Proofs.YtohlfelngklcfaaGreat.OM
