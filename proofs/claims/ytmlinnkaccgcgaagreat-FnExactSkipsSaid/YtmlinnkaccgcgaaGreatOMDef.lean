/- The own machine: pure data, places, and a deterministic evaluator over resolved code. -/
import Derived.Calls
import Derived.Orders
set_option linter.all false
namespace Go.Proofs.YtmlinnkaccgcgaaGreat.OM
inductive D where
 | int (k : IntKind) (n : Int)
 | bool (b : Bool)
 | str (s : ByteArray)
 | sl (sz : Nat) (es : List (List D))
 | dead
 | fn (g : Nat) (ds : List D)
 | rp (ds : List D)
 deriving Inhabited
abbrev Pth:=List (Nat × Nat)
inductive C where
 | ro (k : Bool) (d : D)
 | own (d : D)
 | rf (r j : Nat)
 deriving Inhabited
inductive Rt where
 | vir (cs : List C)
 | bx (cs : List C)
 deriving Inhabited
inductive AV where
 | v (k : Bool) (d : D)
 | nl (sz : Nat)
 | agg (cs : List AV)
 | tup (cs : List AV)
 | pl (r j : Nat) (p : Pth)
 | rg (r j : Nat) (p : Pth) (sz lo hi : Nat)
 | bx (r j : Nat)
 | ad (r j : Nat) (p : Pth) (sz i c : Nat)
 | ra (k : Bool) (sz : Nat) (es : List (List D)) (i c : Nat)
 | fv (f r : Nat)
 | un
 deriving Inhabited
inductive V where
 | one (c : C)
 | st (cs : List C)
 | ptr (cs : List C)
 | tup (vs : List V)
 deriving Inhabited
def D.scal : D → Bool
 | .int .. | .bool _ | .str _ => true
 | _ => false
def D.live : D → Bool
 | .dead => false
 | _ => true
def D.dig : D → Pth → Option D
 | d,[] => some d
 | .sl _ es,(i,j) :: p =>
  match es[i]? with
  | some e => match e[j]? with
   | some d => d.dig p
   | none => none
  | none => none
 | _,_ :: _ => none
def D.put : D → Pth → D → D
 | _,[],x => x
 | .sl sz es,(i,j) :: p,x =>
  match es[i]? with
  | some e => match e[j]? with
   | some d => .sl sz (es.set i (e.set j (d.put p x)))
   | none => .sl sz es
  | none => .sl sz es
 | d,_ :: _,_ => d
def Rt.cells : Rt → List C
 | .vir cs | .bx cs => cs
def Rt.setc : Rt → Nat → C → Rt
 | .vir cs,j,c => .vir (cs.set j c)
 | .bx cs,j,c => .bx (cs.set j c)
def Rt.isVir : Rt → Bool
 | .vir _ => true
 | .bx _ => false
abbrev Mem:=Option Rt × List (Nat × Pth)
abbrev Ms:=Nat → Mem
def upd {α : Type} (f : Nat → α) (n : Nat) (x : α) : Nat → α:=fun k => if k = n then x else f k
def thr : Pth → Pth → Bool
 | [],_ => true
 | (_,c) :: k,(_,c') :: p => c == c' && thr k p
 | _ :: _,[] => false
def Ms.killed (m : Ms) (r j : Nat) (p : Pth) : Bool:=(m r).2.any fun x => x.1 == j && thr x.2 p
def Ms.cell (m : Ms) (r j : Nat) : Option C :=
 match (m r).1 with
 | some rt => rt.cells[j]?
 | none => none
def Ms.at (m : Ms) (r j : Nat) (p : Pth) : Option D :=
 if m.killed r j p then none else
 match m.cell r j with
 | some (.own d) => d.dig p
 | _ => none
def Ms.putAt (m : Ms) (r j : Nat) (p : Pth) (x : D) (kl : List (Nat × Pth)) : Option Ms :=
 match (m r).1 with
 | some rt => match rt.cells[j]? with
  | some (.own d) => some (upd m r (some (rt.setc j (.own (d.put p x))),kl ++ (m r).2))
  | _ => none
 | none => none
def Ms.take (m : Ms) (r j : Nat) (p : Pth) : Option (D × Ms) :=
 match m.at r j p with
 | some (.sl sz es) => match m.putAt r j p .dead [] with
  | some m' => some (.sl sz es,m')
  | none => none
 | _ => none
def mkv (k : Bool) (d : D) : AV :=
 match d with
 | .sl sz es => .v k (.sl sz es)
 | .fn g ds => .v k (.fn g ds)
 | .rp ds => .v k (.rp ds)
 | d => .v false d
def cellAV (r j : Nat) (p : Pth) (d : D) : AV :=
 match d with
 | .sl _ _ => .pl r j p
 | .dead => .un
 | d => .v false d
def rcell (r j : Nat) (c : C) : AV :=
 match c with
 | .ro k d => mkv k d
 | .own d => cellAV r j [] d
 | .rf r' j' => .pl r' j' []
def AV.cells : AV → List AV
 | .agg cs => cs
 | a => [a]
def cutD (d : Option D) (sz lo hi : Nat) : Option (List (List D)) :=
 match d with
 | some (.sl sz' es) => if sz' = sz ∧ lo ≤ hi ∧ hi ≤ es.length then some ((es.take hi).drop lo) else none
 | _ => none
def cut (es : List (List D)) (lo hi : Nat) : List (List D):=(es.take hi).drop lo
def absC (m : Ms) : AV → Option (C × Ms)
 | .v _ .dead => none
 | .v k d => some (.ro k d,m)
 | .nl sz => some (.own (.sl sz []),m)
 | .pl r j p => match m.take r j p with
  | some (d,m') => some (.own d,m')
  | none => none
 | .rg r j p sz 0 hi => match cutD (m.at r j p) sz 0 hi,m.take r j p with
  | some es,some (_,m') => some (.own (.sl sz es),m')
  | _,_ => none
 | _ => none
def absCs (m : Ms) : List AV → Option (List C × Ms)
 | [] => some ([],m)
 | a :: as => match absC m a with
  | some (c,m') => match absCs m' as with
   | some (cs,m'') => some (c :: cs,m'')
   | none => none
  | none => none
def C.toD : C → Option D
 | .ro _ d => if d.scal then some d else none
 | .own d => some d
 | .rf .. => none
def toDs : List C → Option (List D)
 | [] => some []
 | c :: cs => match c.toD with
  | some d => match toDs cs with
   | some ds => some (d :: ds)
   | none => none
  | none => none
def refC (m : Ms) : AV → Option C
 | .v _ .dead => none
 | .v k d => some (.ro k d)
 | .nl sz => some (.own (.sl sz []))
 | .pl r j [] => match (m r).1 with
  | some (.vir _) => if m.killed r j [] then none else some (.rf r j)
  | _ => none
 | _ => none
def refCs (m : Ms) : List AV → Option (List C)
 | [] => some []
 | a :: as => match refC m a with
  | some c => match refCs m as with
   | some cs => some (c :: cs)
   | none => none
  | none => none
def Ms.els (m : Ms) : AV → Option (Nat × List (List D))
 | .v _ (.sl sz es) => some (sz,es)
 | .nl sz => some (sz,[])
 | .pl r j p => match m.at r j p with
  | some (.sl sz es) => some (sz,es)
  | _ => none
 | .rg r j p sz lo hi => match cutD (m.at r j p) sz lo hi with
  | some es => some (sz,es)
  | none => none
 | _ => none
def AV.asInt : AV → Option Int
 | .v _ (.int _ n) => some n
 | _ => none
def AV.asBool : AV → Option Bool
 | .v _ (.bool b) => some b
 | _ => none
def setRange {α : Type} (l : List α) (c : Nat) (xs : List α) : List α:=l.take c ++ xs ++ l.drop (c + xs.length)
def C.scal : C → Bool
 | .ro _ _ => true
 | .own _ => false
 | .rf .. => false
def loadC (m : Ms) (n : Nat) : AV → Option (List AV)
 | .bx r j => match (m r).1 with
  | some (.bx cs) => if j + n ≤ cs.length then some (((cs.drop j).take n).zipIdx.map fun x => rcell r (j + x.2) x.1) else none
  | _ => none
 | .ad r j p sz i c => match m.at r j p with
  | some (.sl sz' es) => match es[i]? with
   | some e => if c + n ≤ e.length ∧ sz' = sz then some (((e.drop c).take n).zipIdx.map fun x => cellAV r j (p ++ [(i,c + x.2)]) x.1) else none
   | none => none
  | _ => none
 | .ra k _ es i c => match es[i]? with
   | some e => if c + n ≤ e.length then some (((e.drop c).take n).map fun x => mkv k x) else none
   | none => none
 | .v k (.rp ds) => if n ≤ ds.length then some ((ds.take n).map fun x => mkv k x) else none
 | _ => none
def killsC (j : Nat) : List C → List C → List (Nat × Pth)
 | c :: cs,c' :: cs' => if c.scal && c'.scal then killsC (j + 1) cs cs' else (j,[]) :: killsC (j + 1) cs cs'
 | _,_ => []
def killsD (j : Nat) (p : Pth) (i c : Nat) : List D → List D → List (Nat × Pth)
 | d :: ds,d' :: ds' => if d.scal && d'.scal then killsD j p i (c + 1) ds ds' else (j,p ++ [(i,c)]) :: killsD j p i (c + 1) ds ds'
 | _,_ => []
def storeC (m : Ms) (cs : List C) : AV → Option Ms
 | .bx r j => match m r with
  | (some (.bx cs0),kl) =>
   if j + cs.length ≤ cs0.length then
    some (upd m r (some (.bx (setRange cs0 j cs)),killsC j (cs0.drop j) cs ++ kl))
   else none
  | _ => none
 | .ad r j p sz i c => match toDs cs with
  | some ds => match m.at r j p with
   | some (.sl sz' es) => match es[i]? with
    | some e =>
     if c + ds.length ≤ e.length ∧ sz' = sz then
      m.putAt r j p (.sl sz (es.set i (setRange e c ds))) (killsD j p i c (e.drop c) ds)
     else none
    | none => none
   | _ => none
  | none => none
 | _ => none
def binD (op : BinOp) : D → D → Option D
 | .int k a,.int k' b =>
  match op with
  | .shl => if b < 0 then none else some (.int k (k.wrap (a * 2 ^ (min b.toNat k.bits))))
  | .shr => if b < 0 then none else some (.int k (a.fdiv (2 ^ (min b.toNat k.bits))))
  | op =>
   if k = k' then
    match op with
    | .add => some (.int k (k.wrap (a + b)))
    | .sub => some (.int k (k.wrap (a - b)))
    | .mul => some (.int k (k.wrap (a * b)))
    | .quo => if b = 0 then none else some (.int k (k.wrap (a.tdiv b)))
    | .rem => if b = 0 then none else some (.int k (a.tmod b))
    | .and => some (.int k (k.wrap (BitVec.ofInt k.bits a &&& BitVec.ofInt k.bits b).toNat))
    | .or => some (.int k (k.wrap (BitVec.ofInt k.bits a ||| BitVec.ofInt k.bits b).toNat))
    | .xor => some (.int k (k.wrap (BitVec.ofInt k.bits a ^^^ BitVec.ofInt k.bits b).toNat))
    | .eql => some (.bool (a == b))
    | .neq => some (.bool (a != b))
    | .lss => some (.bool (a < b))
    | .leq => some (.bool (a ≤ b))
    | .gtr => some (.bool (a > b))
    | .geq => some (.bool (a ≥ b))
    | _ => none
   else none
 | .str a,.str b =>
  match op with
  | .add => if ((a.size + b.size : Nat) : Int) > IntKind.i64.max then none else some (.str (a ++ b))
  | .eql => some (.bool (a.toList == b.toList))
  | .neq => some (.bool !(a.toList == b.toList))
  | .lss => some (.bool (Op.bytesLess a.toList b.toList))
  | .leq => some (.bool (Op.bytesLess a.toList b.toList || a.toList == b.toList))
  | .gtr => some (.bool !(Op.bytesLess a.toList b.toList || a.toList == b.toList))
  | .geq => some (.bool !(Op.bytesLess a.toList b.toList))
  | _ => none
 | _,_ => none
def eqCells : List Nat → List AV → List AV → Option Bool
 | [],[],[] => some true
 | 0 :: ks,.v _ (.int k a) :: xs,.v _ (.int k' b) :: ys => if k = k' then (match eqCells ks xs ys with | some r => some (a == b && r) | none => none) else none
 | 1 :: ks,.v _ (.bool a) :: xs,.v _ (.bool b) :: ys => (match eqCells ks xs ys with | some r => some (a == b && r) | none => none)
 | 2 :: ks,.v _ (.str a) :: xs,.v _ (.str b) :: ys => (match eqCells ks xs ys with | some r => some (a.toList == b.toList && r) | none => none)
 | _,_,_ => none
def unD (op : UnOp) : D → Option D
 | .bool b => match op with
  | .not => some (.bool !b)
  | _ => none
 | .int k n => match op with
  | .neg => some (.int k (k.wrap (0 - n)))
  | _ => none
 | _ => none
inductive PX where
 | t (n : Nat)
 | c (a : AV)
 deriving Inhabited
inductive POp where
 | mv (x : PX)
 | pick (c a b : PX)
 | bin (op : BinOp) (x y : PX)
 | eqs (neg : Bool) (ks : List Nat) (x y : PX)
 | eqb (neg : Bool) (x y : PX)
 | un (op : UnOp) (x : PX)
 | len (x : PX)
 | lens (x : PX)
 | box (n : Nat) (x : PX)
 | alloc (cs : List AV)
 | build (z : List AV) (ps : List (Nat × Nat × PX))
 | bsl (sz : Nat) (z : List D) (n : Nat) (ps : List (Nat × PX))
 | mks (sz bytes : Nat) (z : List D) (x : PX)
 | ld (agg : Bool) (n : Nat) (x : PX)
 | st (n : Nat) (x y : PX)
 | std (n : Nat) (x y : PX)
 | fldv (x : PX) (off : Nat)
 | nck (x : PX)
 | fad (x : PX) (off : Nat)
 | iad (sz : Nat) (x i : PX)
 | slc (sz : Nat) (x : PX) (lo hi : Option PX)
 | slcs (x : PX) (lo hi : Option PX)
 | ext (x : PX) (k : Nat)
 | call (f : Nat) (io : List Nat) (args : List PX)
 | app (sz bytes : Nat) (x y : PX)
 | cvi (k : IntKind) (x : PX)
 | cvs (x : PX)
 | cvb (x : PX)
 | idx (x i : PX)
 | mn (x y : PX)
 | mx (x y : PX)
 | mkf (g : Nat) (x : PX)
 | callv (x : PX) (args : List PX)
 | appf (sz bytes : Nat) (x y : PX)
 | apps (x y : PX)
 | callm (f i : Nat) (args : List PX)
 | clr (sz : Nat) (z : List D) (x : PX)
 deriving Inhabited
structure PO where
 dst : Option Nat
 op : POp
 g : Option (Nat × Bool):=none
 deriving Inhabited
abbrev AL:=List (Nat × AV × Option Rt)
inductive PC where
 | ext (calls : AL → Option (List (Nat × List V × V))) (f : AL → Option AL)
 | skip
 | reg (live : List Nat) (ren : List (Nat × Nat)) (ops : List PO) (draw : Option (List (Nat × Nat)))
 | seq (a b : PC)
 | cond (x : PX) (a b : PC)
 | blk (id : Nat) (c : PC)
 | loop (c : PC)
 | exit (id : Nat)
 | ret
 deriving Inhabited
inductive PR where
 | s (n : Nat)
 | b (n size : Nat) (agg : Bool)
 deriving Inhabited
structure PF where
 res : List PR
 io : List Nat
 body : PC
 deriving Inhabited
structure St where
 av : Nat → AV
 ms : Ms
def St.ev (S : St) : PX → AV
 | .t n => S.av n
 | .c a => a
def AL.get : AL → Nat → AV × Option Rt
 | [],_ => (.un,none)
 | (k,x) :: l,n => if n = k then x else AL.get l n
def AL.st (L : AL) : St:={ av:=fun n => (L.get n).1,ms:=fun n => ((L.get n).2,[]) }
def roDs : List C → Option (List D)
 | [] => some []
 | .ro k d :: cs => if k || d.scal then match roDs cs with
   | some ds => some (d :: ds)
   | none => none
  else none
 | _ :: _ => none
def lenDs : List C → Option (List D)
 | [] => some []
 | .ro k d :: cs => if k || d.scal then match lenDs cs with
   | some ds => some (d :: ds)
   | none => none
  else none
 | .own d :: cs => match lenDs cs with
   | some ds => some (d :: ds)
   | none => none
 | _ :: _ => none
def borC (m : Ms) : AV → Option C
 | .v _ .dead => none
 | .v k d => some (.ro k d)
 | .nl sz => some (.ro false (.sl sz []))
 | .pl r j p => match m.at r j p with
  | some (.sl sz es) => some (.ro true (.sl sz es))
  | _ => none
 | .rg r j p sz lo hi => match cutD (m.at r j p) sz lo hi with
  | some es => some (.ro true (.sl sz es))
  | none => none
 | .fv f r => match (m r).1 with
  | some (.bx cs) => match roDs cs with
   | some (d :: ds) => some (.ro true (.fn f (d :: ds)))
   | _ => none
  | _ => none
 | .bx r 0 => match (m r).1 with
  | some (.bx cs) => match lenDs cs with
   | some (d :: ds) => some (.ro true (.rp (d :: ds)))
   | _ => none
  | _ => none
 | _ => none
def borCs (m : Ms) : List AV → Option (List C)
 | [] => some []
 | a :: as => match borC m a with
  | some c => match borCs m as with
   | some cs => some (c :: cs)
   | none => none
  | none => none
def iooC (m : Ms) : AV → Option C
 | .v _ .dead => none
 | .v k d => some (.ro k d)
 | .nl sz => some (.ro false (.sl sz []))
 | .pl r j p => match m.at r j p with
  | some (.sl sz es) => some (.own (.sl sz es))
  | _ => none
 | _ => none
def iooCs (m : Ms) : List AV → Option (List C)
 | [] => some []
 | a :: as => match iooC m a with
  | some c => match iooCs m as with
   | some cs => some (c :: cs)
   | none => none
  | none => none
def C.noRf : C → Bool
 | .rf .. => false
 | _ => true
def argV (m : Ms) (io : Bool) : AV → Option V
 | .agg cs => match (if io then iooCs m cs else borCs m cs) with
  | some l => some (.st l)
  | none => none
 | a => match (if io then iooC m a else borC m a) with
  | some c => some (.one c)
  | none => none
def argVs (m : Ms) (io : List Nat) : Nat → List AV → Option (List V)
 | _,[] => some []
 | i,a :: as => match argV m (io.contains i) a with
  | some x => match argVs m io (i + 1) as with
   | some xs => some (x :: xs)
   | none => none
  | none => none
def AV.lent1 : AV → Bool
 | .pl .. | .rg .. | .fv .. | .bx .. => true
 | _ => false
def AV.isFv : AV → Bool
 | .fv .. | .bx .. => true
 | _ => false
def AV.hasFv : AV → Bool
 | .agg cs => cs.any AV.isFv
 | a => a.isFv
def AV.lent : AV → Bool
 | .agg cs => cs.any AV.lent1
 | a => a.lent1
def lentAny (io : List Nat) : Nat → List AV → Bool
 | _,[] => false
 | i,a :: as => (!io.contains i && a.lent) || lentAny io (i + 1) as
def C.okRes : C → Bool
 | .ro k d => !k || d.scal
 | .own _ => true
 | .rf .. => false
def V.okRes1 : V → Bool
 | .one c => c.okRes
 | .st cs | .ptr cs => cs.all C.okRes
 | _ => false
def V.okRes : V → Bool
 | .tup vs => vs.all V.okRes1
 | x => x.okRes1
def V.plain1 : V → Bool
 | .one c => c.noRf
 | .st cs => cs.all C.noRf
 | _ => false
def V.plain : V → Bool
 | .tup vs => vs.all V.plain1
 | .ptr cs => cs.all C.noRf
 | x => x.plain1
def V.flat : V → List C
 | .one c => [c]
 | .st cs => cs
 | _ => []
def impCs (d n : Nat) : List C → List AV
 | [] => []
 | c :: cs => rcell d n c :: impCs d (n + 1) cs
def impV (d n : Nat) : V → AV
 | .one c => rcell d n c
 | .st cs => .agg (impCs d n cs)
 | _ => .un
def impVs (d : Nat) : Nat → List V → List AV
 | _,[] => []
 | n,x :: xs => impV d n x :: impVs d (n + x.flat.length) xs
def C.isOwn : C → Bool
 | .own d => !d.scal
 | _ => false
def virOf (cs : List C) : Option Rt:=if cs.any C.isOwn then some (.vir cs) else none
def imp (d : Nat) : V → AV × Option Rt
 | .ptr cs => (.bx d 0,some (.bx cs))
 | .tup xs => (.tup (impVs d 0 xs),virOf (xs.flatMap V.flat))
 | x => (impV d 0 x,virOf x.flat)
def kidKills (j : Nat) (p : Pth) : Nat → List (Nat × Pth)
 | 0 => []
 | n + 1 => (j,p ++ [(0,n)]) :: kidKills j p n
def outV (m : Ms) : AV → Option (V × Ms)
 | .agg cs => match absCs m cs with
  | some (l,m') => some (.st l,m')
  | none => none
 | a => match absC m a with
  | some (c,m') => some (.one c,m')
  | none => none
def upC (m : Ms) (c : C) : AV → Option Ms
 | .pl r j p => match c with
  | .own (.sl sz es) => match m.at r j p with
   | some .dead => m.putAt r j p (.sl sz es) (kidKills j p sz)
   | _ => none
  | _ => none
 | .nl _ => match c with
  | .own (.sl _ []) => some m
  | _ => none
 | _ => none
def ups (cs : List AV) : Nat → Ms → List (Nat × Nat × C) → Option Ms
 | _,m,[] => some m
 | lo,m,(i,j,c) :: l => if i = 0 ∧ lo ≤ j then match cs[j]? with
  | some a => match upC m c a with
   | some m' => ups cs (j + 1) m' l
   | none => none
  | none => none
  else none
def flatD (es : List (List D)) : Bool:=es.all fun e => e.all D.scal
def AV.isVal : AV → Bool
 | .un | .tup _ | .v _ .dead => false
 | _ => true
def fillAV (z : List AV) : List (Nat × Nat × AV) → Option (List AV)
 | [] => some z
 | (off,n,a) :: l => if a.cells.length = n ∧ off + n ≤ z.length ∧ a.isVal = true then fillAV (setRange z off a.cells) l else none
def chunks (sz : Nat) : Nat → List D → List (List D)
 | 0,_ => []
 | n + 1,l => l.take sz :: chunks sz n (l.drop sz)
def fillD (m : Ms) (sz : Nat) (l : List D) : List (Nat × AV) → Option (List D × Ms)
 | [] => some (l,m)
 | (off,a) :: r => match absCs m a.cells with
  | some (cs,m') => match toDs cs with
   | some ds => if ds.length = sz ∧ off + sz ≤ l.length then fillD m' sz (setRange l off ds) r else none
   | none => none
  | none => none
def C.isRo : C → Bool
 | .ro .. => true
 | _ => false
def AV.ptr? (m : Ms) : AV → Option (Nat × List C)
 | .bx r 0 => match (m r).1 with
  | some (.bx cs) => if cs.all C.noRf then some (r,cs) else none
  | _ => none
 | _ => none
def V.noPtr : V → Bool
 | .ptr _ => false
 | _ => true
def usCells : Nat → List (Nat × Nat × C) → Option (List C)
 | _,[] => some []
 | n,(i,j,c) :: us => if i = 0 ∧ j = n ∧ c.noRf = true then match usCells (n + 1) us with
   | some cs => some (c :: cs)
   | none => none
  else none
def killB (r : Nat) : Nat → List (Nat × Pth)
 | 0 => []
 | n + 1 => (n,[]) :: killB r n
mutual
def AV.refs : AV → List Nat
 | .pl r _ _ => [r]
 | .rg r _ _ _ _ _ => [r]
 | .bx r _ => [r]
 | .ad r _ _ _ _ _ => [r]
 | .fv _ r => [r]
 | .agg cs => AV.refsL cs
 | .tup cs => AV.refsL cs
 | _ => []
def AV.refsL : List AV → List Nat
 | [] => []
 | a :: as => a.refs ++ AV.refsL as
end
def boxBack (m : Ms) (r0 : Nat) (rest : List AV) (cs cs1 : List C) : Option Ms :=
 if cs.all C.isRo && cs1.all C.isRo then some (upd m r0 (some (.bx cs1),(m r0).2))
 else if rest.all (fun a => !a.refs.contains r0) then some (upd m r0 (some (.bx cs1),killB r0 cs.length ++ (m r0).2)) else none
abbrev Env:=Nat → List V → Option (V × List (Nat × Nat × C))
def strBytes (s : ByteArray) : List (List D):=s.toList.map fun b => [.int .u8 b.toNat]
def bytesStr : List (List D) → Option (List UInt8)
 | [] => some []
 | [.int .u8 n] :: l => match bytesStr l with
  | some bs => some (UInt8.ofNat n.toNat :: bs)
  | none => none
 | _ => none
def boundI (n : Int) (most : Nat) : Option Nat:=if 0 ≤ n ∧ n ≤ most then some n.toNat else none
def loHi (len : Nat) (ev : PX → AV) (lo hi : Option PX) : Option (Nat × Nat) :=
 match (match hi with | none => some len | some x => match (ev x).asInt with | some n => boundI n len | none => none) with
 | some h => match (match lo with | none => some 0 | some x => match (ev x).asInt with | some n => boundI n h | none => none) with
  | some l => some (l,h)
  | none => none
 | none => none
def dropC : AV → Option C
 | .v _ .dead => none
 | .v k d => some (.ro k d)
 | .nl _ => some (.ro false .dead)
 | .pl .. => some (.ro false .dead)
 | .rg .. => some (.ro false .dead)
 | _ => none
def dropCs : List AV → Option (List C)
 | [] => some []
 | a :: as => match dropC a with
  | some c => match dropCs as with
   | some cs => some (c :: cs)
   | none => none
  | none => none
def storeB (m : Ms) (cs : List C) : AV → Option Ms
 | .bx r j => storeC m cs (.bx r j)
 | _ => none
def capV (k : Bool) : List D → List V
 | [] => []
 | d :: ds => [.one (.ro k (.rp (d :: ds)))]
def opf (Γ : Env) (ev : PX → AV) (d : Nat) (m : Ms) : POp → Option (AV × Option Rt × Ms)
 | .mv x => some (ev x,none,m)
 | .pick c a b => match (ev c).asBool with
  | some t => some (if t then ev a else ev b,none,m)
  | none => none
 | .bin op x y => match ev x,ev y with
  | .v _ a,.v _ b => match binD op a b with
   | some r => some (.v false r,none,m)
   | none => none
  | _,_ => none
 | .eqs neg ks x y => match ev x,ev y with
  | .agg xs,.agg ys => match eqCells ks xs ys with
   | some r => some (.v false (.bool (if neg then !r else r)),none,m)
   | none => none
  | _,_ => none
 | .eqb neg x y => match (ev x).asBool,(ev y).asBool with
  | some a,some b => some (.v false (.bool (if neg then !(a == b) else a == b)),none,m)
  | _,_ => none
 | .un op x => match ev x with
  | .v _ a => match unD op a with
   | some r => some (.v false r,none,m)
   | none => none
  | _ => none
 | .len x => match m.els (ev x) with
  | some (_,es) => some (.v false (.int .i64 es.length),none,m)
  | none => none
 | .lens x => match ev x with
  | .v _ (.str s) => some (.v false (.int .i64 s.size),none,m)
  | _ => none
 | .box n x => match refCs m (ev x).cells with
  | some cs => if cs.length = n then some (.bx d 0,some (.bx cs),m) else none
  | none => none
 | .alloc zs => match refCs m zs with
  | some cs => some (.bx d 0,some (.bx cs),m)
  | none => none
 | .build z ps => match fillAV z (ps.map fun x => (x.1,x.2.1,ev x.2.2)) with
  | some l => some (.agg l,none,m)
  | none => none
 | .bsl sz z n ps => match fillD m sz z (ps.map fun x => (x.1,ev x.2)) with
  | some (l,m') => some (.pl d 0 [],some (.vir [.own (.sl sz (chunks sz n l))]),m')
  | none => none
 | .mks sz bytes z x => match (ev x).asInt with
  | some n => if 0 ≤ n ∧ n.toNat * bytes ≤ 2 ^ 47 then
    some (.pl d 0 [],some (.vir [.own (.sl sz (List.replicate n.toNat z))]),m) else none
  | none => none
 | .ld agg n x => match loadC m n (ev x) with
  | some l => if agg then some (.agg l,none,m) else match l with
   | [a] => some (a,none,m)
   | _ => none
  | none => none
 | .st n x y => match absCs m (ev y).cells with
  | some (cs,m') => if cs.length = n then match storeC m' cs (ev x) with
    | some m'' => some (.un,none,m'')
    | none => none
   else none
  | none => none
 | .std _ _ _ => none
 | .fldv _ _ => none
 | .nck _ => none
 | .fad x off => match ev x with
  | .bx r j => some (.bx r (j + off),none,m)
  | .ad r j p sz i c => some (.ad r j p sz i (c + off),none,m)
  | .ra k sz es i c => some (.ra k sz es i (c + off),none,m)
  | _ => none
 | .iad sz x i => match (ev i).asInt with
  | some n => match ev x with
   | .v k (.sl sz' es) => if 0 ≤ n ∧ n < es.length ∧ sz' = sz then some (.ra k sz es n.toNat 0,none,m) else none
   | .pl r j p => match m.at r j p with
    | some (.sl sz' es) => if 0 ≤ n ∧ n < es.length ∧ sz' = sz then some (.ad r j p sz n.toNat 0,none,m) else none
    | _ => none
   | .rg r j p sz' lo hi => match cutD (m.at r j p) sz' lo hi with
    | some es => if 0 ≤ n ∧ n < es.length ∧ sz' = sz then some (.ad r j p sz (lo + n.toNat) 0,none,m) else none
    | none => none
   | _ => none
  | none => none
 | .slcs _ _ _ => none
 | .slc sz0 x lo hi => match ev x with
  | .v k (.sl sz es) => match loHi es.length ev lo hi with
   | some (l,h) => if sz = sz0 then some (.v k (.sl sz (cut es l h)),none,m) else none
   | none => none
  | .nl sz => match loHi 0 ev lo hi with
   | some _ => some (.nl sz,none,m)
   | none => none
  | .pl r j p => match m.at r j p with
   | some (.sl sz es) => match loHi es.length ev lo hi with
    | some (l,h) => if sz = sz0 then some (.rg r j p sz l h,none,m) else none
    | none => none
   | _ => none
  | _ => none
 | .ext x k => match ev x with
  | .tup cs => match cs[k]? with
   | some a => some (a,none,m)
   | none => none
  | _ => none
 | .call f io args => match io with
  | [] => match argVs m [] 0 (args.map ev) with
   | some xs => match Γ f xs with
    | some (r,us) => if r.plain && (r.okRes || !(lentAny [] 0 (args.map ev))) then
      match us with
      | [] => some ((imp d r).1,(imp d r).2,m)
      | _ => none
     else none
    | none => none
   | none => none
  | _ :: _ => match args.map ev with
   | [] => none
   | a0 :: rest => match a0.ptr? m with
    | some _ => none
    | none => match outV m a0 with
    | some (x0,m1) => match argVs m1 [] 1 rest with
     | some xs => match Γ f (x0 :: xs) with
      | some (r,us) => if r.plain && ((r.okRes && us.all fun u => u.2.2.okRes) || !(lentAny [] 1 rest)) then match ups a0.cells 0 m1 us with
        | some m2 => some ((imp d r).1,(imp d r).2,m2)
        | none => none
       else none
      | none => none
     | none => none
    | none => none
 | .app sz bytes x y => match (match m.els (ev y) with
   | some (s,ys) => if flatD ys then some (s,ys,m) else match absC m (ev y) with
    | some (.own (.sl s1 ys1),m1) => if ys1.all (fun e => e.all D.live) then some (s1,ys1,m1) else none
    | _ => none
   | none => none) with
  | some (s1,ys,m1) => match absC m1 (ev x) with
   | some (.own (.sl s2 es),m2) =>
    if s1 = sz ∧ s2 = sz ∧ (es.length + ys.length) * bytes ≤ 2 ^ 46 then
     some (.pl d 0 [],some (.vir [.own (.sl sz (es ++ ys))]),m2) else none
   | _ => none
  | none => none
 | .apps x y => match ev y with
  | .v _ (.str s) => match absC m (ev x) with
   | some (.own (.sl 1 es),m2) => if es.length + s.size ≤ 2 ^ 46 then
     some (.pl d 0 [],some (.vir [.own (.sl 1 (es ++ strBytes s))]),m2) else none
   | _ => none
  | _ => none
 | .appf sz bytes x y => match m.els (ev y) with
  | some (s1,ys) => if flatD ys then match absC m (ev x) with
   | some (.own (.sl s2 es),m2) =>
    if s1 = sz ∧ s2 = sz ∧ (es.length + ys.length) * bytes ≤ 2 ^ 46 then
     some (.pl d 0 [],some (.vir [.own (.sl sz (es ++ ys))]),m2) else none
   | _ => none
   else none
  | none => none
 | .cvi k x => match ev x with
  | .v _ (.int _ n) => some (.v false (.int k (k.wrap n)),none,m)
  | _ => none
 | .cvs x => match m.els (ev x) with
  | some (_,es) => match bytesStr es with
   | some bs => some (.v false (.str ⟨bs.toArray⟩),none,m)
   | none => none
  | none => none
 | .cvb _ => none
 | .idx x i => match ev x,(ev i).asInt with
  | .v _ (.str s),some n => if 0 ≤ n then match s.toList[n.toNat]? with
    | some b => some (.v false (.int .u8 b.toNat),none,m)
    | none => none
   else none
  | _,_ => none
 | .mn x y => match ev x,ev y with
  | .v _ (.int k a),.v _ (.int _ b) => some (.v false (.int k (if b < a then b else a)),none,m)
  | _,_ => none
 | .mx x y => match ev x,ev y with
  | .v _ (.int k a),.v _ (.int _ b) => some (.v false (.int k (if a < b then b else a)),none,m)
  | _,_ => none
 | .mkf _ _ => none
 | .callm f i args => match (args.map ev)[i]? with
  | some a0 => match outV m a0 with
   | some (x0,m1) => match argVs m1 [] 0 ((args.map ev).set i (.v false (.bool true))) with
    | some xs => match Γ f (xs.set i x0) with
     | some (r,_) => if r.plain && (r.okRes || !(lentAny [] 0 ((args.map ev).set i (.v false (.bool true))))) then
       some ((imp d r).1,(imp d r).2,m1)
      else none
     | none => none
    | none => none
   | none => none
  | none => none
 | .clr sz z x => match ev x with
  | .rg r j p sz0 lo hi => match m.at r j p with
   | some (.sl sz1 es) => if sz1 = sz ∧ sz0 = sz ∧ lo < hi ∧ hi ≤ es.length ∧ z.length = sz ∧ z.all D.scal = true ∧ flatD ((es.take hi).drop lo) = true then
     (match m.putAt r j p (.sl sz (es.take lo ++ List.replicate (hi - lo) z ++ es.drop hi)) [] with
     | some m' => some (.tup [],none,m')
     | none => none)
    else none
   | _ => none
  | _ => none
 | .callv _ _ => none
def gd (S : St) : Option (Nat × Bool) → Option Bool
 | none => some true
 | some (t,want) => match S.av t with
  | .v _ (.bool b) => some (b == want)
  | .tup [] => some false
  | _ => none
def stepO (Γ : Env) (o : PO) (S : St) : Option St :=
 match gd S o.g with
 | some true =>
  match o.dst with
  | some d => match opf Γ S.ev d S.ms o.op with
   | some (a,none,m) => some { av:=upd S.av d a,ms:=m }
   | some (a,some r,m) => match m d with
    | (none,_) => some { av:=upd S.av d a,ms:=upd m d (some r,[]) }
    | _ => none
   | none => none
  | none => match opf Γ S.ev 0 S.ms o.op with
   | some (_,none,m) => some { av:=S.av,ms:=m }
   | _ => none
 | some false => match o.dst with
  | some d => some { S with av:=upd S.av d (.tup []) }
  | none => some S
 | none => none
def runOps (Γ : Env) : List PO → St → Option St
 | [],S => some S
 | o :: os,S => match stepO Γ o S with
  | some S' => runOps Γ os S'
  | none => none
def lookR (ren : List (Nat × Nat)) (r : Nat) : Nat:=match ren with
 | [] => r
 | (a,b) :: l => if r = a then b else lookR l r
def backR (ren : List (Nat × Nat)) (n : Nat) : Option Nat:=match ren with
 | [] => none
 | (a,b) :: l => if n = b then some a else backR l n
def srcR (ren : List (Nat × Nat)) (n : Nat) : Nat:=match backR ren n with
 | some a => a
 | none => n
def okR (live : List Nat) (ren : List (Nat × Nat)) (r : Nat) : Bool :=
 live.contains (lookR ren r) && srcR ren (lookR ren r) == r
mutual
def fixAV (m : Ms) (live : List Nat) (ren : List (Nat × Nat)) : AV → AV
 | .pl r j p => if (m.killed r j p) || !(okR live ren r) then .un else .pl (lookR ren r) j p
 | .rg r j p sz lo hi => if (m.killed r j p) || !(okR live ren r) then .un else .rg (lookR ren r) j p sz lo hi
 | .bx r j => if !(okR live ren r) then .un else .bx (lookR ren r) j
 | .ad r j p sz i c => if (m.killed r j p) || !(okR live ren r) then .un else .ad (lookR ren r) j p sz i c
 | .fv f r => if !(okR live ren r) then .un else .fv f (lookR ren r)
 | .agg cs => .agg (fixAVs m live ren cs)
 | .tup cs => .tup (fixAVs m live ren cs)
 | a => a
def fixAVs (m : Ms) (live : List Nat) (ren : List (Nat × Nat)) : List AV → List AV
 | [] => []
 | a :: as => fixAV m live ren a :: fixAVs m live ren as
end
def fixC (live : List Nat) (ren : List (Nat × Nat)) : C → C
 | .rf r j => if okR live ren r then .rf (lookR ren r) j else .ro false .dead
 | c => c
def fixRt (live : List Nat) (ren : List (Nat × Nat)) : Rt → Rt
 | .vir cs => .vir (cs.map (fixC live ren))
 | .bx cs => .bx (cs.map (fixC live ren))
def keepRt (S : St) (live : List Nat) (ren : List (Nat × Nat)) (n : Nat) : Option Rt :=
 if lookR ren (srcR ren n) = n then match (S.ms (srcR ren n)).1 with
  | some rt => some (fixRt live ren rt)
  | none => none
 else none
def settle (live : List Nat) (ren : List (Nat × Nat)) (S : St) : AL :=
 live.map fun n => (n,fixAV S.ms live ren (S.av n),keepRt S live ren n)
def POp.opnds : POp → List PX
 | .mv x | .un _ x | .len x | .lens x | .box _ x | .mks _ _ _ x | .ld _ _ x | .nck x | .fldv x _ | .fad x _ | .ext x _ | .cvi _ x | .cvs x | .cvb x | .mkf _ x | .clr _ _ x => [x]
 | .pick c a b => [c,a,b]
 | .bin _ x y | .eqs _ _ x y | .eqb _ x y | .st _ x y | .std _ x y | .iad _ x y | .app _ _ x y | .appf _ _ x y | .apps x y | .idx x y | .mn x y | .mx x y => [x,y]
 | .alloc zs => zs.map .c
 | .build _ ps => ps.map (·.2.2)
 | .bsl _ _ _ ps => ps.map (·.2)
 | .slc _ x lo hi | .slcs x lo hi => x :: (lo.toList ++ hi.toList)
 | .call _ _ args => args
 | .callm _ _ args => args
 | .callv x args => x :: args
def POp.reads : POp → List PX
 | .len x | .box _ x | .ld _ _ x | .cvs x | .iad _ x _ | .slc _ x _ _ => [x]
 | .std _ x _ => [x]
 | .clr _ _ x => [x]
 | .apps x _ => [x]
 | .st _ x y | .app _ _ x y | .appf _ _ x y => [x,y]
 | .alloc zs => zs.map .c
 | .bsl _ _ _ ps => ps.map (·.2)
 | .call _ _ args => args
 | .callm _ _ args => args
 | .callv _ args => args
 | _ => []
def POp.creates : POp → Bool
 | .box .. | .alloc _ | .bsl .. | .mks .. | .call .. | .callm .. | .callv .. | .app .. | .appf .. | .apps .. => true
 | _ => false
def POp.takes : POp → List PX
 | .std _ x _ => [x]
 | .clr _ _ x => [x]
 | .callm _ _ args => args
 | .appf _ _ x _ => [x]
 | .apps x _ => [x]
 | .st _ x y | .app _ _ x y => [x,y]
 | .bsl _ _ _ ps => ps.map (·.2)
 | .call _ io args => if io = [] then [] else args
 | _ => []
def wanted (S : St) : Option (Nat × Bool) → Bool
 | none => true
 | some (t,want) => match S.av t with
  | .v _ (.bool b) => b == want
  | _ => false
def footR (S : St) (o : PO) : List Nat:=if wanted S o.g then o.op.reads.flatMap fun x => (S.ev x).refs else []
def footW (S : St) (o : PO) : List Nat:=if wanted S o.g then (if o.op.creates then o.dst.toList else []) ++ o.op.takes.flatMap fun x => (S.ev x).refs else []
def foots (Γ : Env) : List PO → St → List (List Nat × List Nat)
 | [],_ => []
 | o :: os,S => match stepO Γ o S with
  | some S' => (footR S o,footW S o) :: foots Γ os S'
  | none => []
def disj (a b : List Nat) : Bool:=a.all fun x => !b.contains x
def parOk (fs : List (List Nat × List Nat)) (ps : List (Nat × Nat)) : Bool :=
 ps.all fun x => match fs[x.1]?,fs[x.2]? with
  | some (r1,w1),some (r2,w2) => disj w1 r2 && disj w2 r1
  | _,_ => false
inductive Out where
 | fail
 | norm (L : AL)
 | exit (id : Nat) (L : AL)
 | ret (L : AL)
 deriving Inhabited
def iter (f : AL → Out) : Nat → AL → Out
 | 0,_ => .fail
 | n + 1,L => match f L with
  | .norm L' => iter f n L'
  | o => o
def runReg (Γ : Env) (live : List Nat) (ren : List (Nat × Nat)) (ops : List PO) (draw : Option (List (Nat × Nat))) (L : AL) : Out :=
 if (match draw with
  | none => true
  | some ps => ps.isEmpty || parOk (foots Γ ops L.st) ps) then
  match runOps Γ ops L.st with
  | some S => .norm (settle live ren S)
  | none => .fail
 else .fail
def CallsOf (Γ : Env) : Option (List (Nat × List V × V)) → Prop
 | some cs => ∀ c ∈ cs,Γ c.1 c.2.1 = some (c.2.2,[])
 | none => False
open Classical in
noncomputable def pexec (Γ : Env) (fuel : Nat) : PC → AL → Out
 | .ext calls f,L => if CallsOf Γ (calls L) then (match f L with
  | some L' => .norm L'
  | none => .fail) else .fail
 | .skip,L => .norm L
 | .reg live ren ops draw,L => runReg Γ live ren ops draw L
 | .seq a b,L => match pexec Γ fuel a L with
  | .norm L' => pexec Γ fuel b L'
  | o => o
 | .cond x a b,L => match (L.st.ev x).asBool with
  | some t => if t then pexec Γ fuel a L else pexec Γ fuel b L
  | none => .fail
 | .blk id c,L => match pexec Γ fuel c L with
  | .exit i L' => if i = id then .norm L' else .exit i L'
  | o => o
 | .loop c,L => iter (pexec Γ fuel c) fuel L
 | .exit id,L => .exit id L
 | .ret,L => .ret L
def initAL : Nat → List V → AL
 | _,[] => []
 | i,x :: xs => (i,(imp i x).1,(imp i x).2) :: initAL (i + 1) xs
def resAV (L : AL) : PR → Option AV
 | .s n => some (L.get n).1
 | .b n size agg => match loadC L.st.ms size (L.get n).1 with
  | some l => if agg then some (.agg l) else match l with
   | [a] => some a
   | _ => none
  | none => none
def outVs (L : AL) (m : Ms) : List PR → Option (List V × Ms)
 | [] => some ([],m)
 | r :: rs => match resAV L r with
  | some a => match outV m a with
   | some (x,m') => match outVs L m' rs with
    | some (xs,m'') => some (x :: xs,m'')
    | none => none
   | none => none
  | none => none
def upsOf (i : Nat) : Nat → List C → List (Nat × Nat × C)
 | _,[] => []
 | j,c :: cs => if c.isOwn then (i,j,c) :: upsOf i (j + 1) cs else upsOf i (j + 1) cs
def upsAll (i : Nat) : Nat → List C → List (Nat × Nat × C)
 | _,[] => []
 | j,c :: cs => (i,j,c) :: upsAll i (j + 1) cs
def outUps (xs : List V) (m : Ms) : List Nat → Option (List (Nat × Nat × C))
 | [] => some []
 | i :: is => match (match (m i).1,xs[i]? with
   | some (.vir cs),some x => if cs.length ≤ x.flat.length then some (upsOf i 0 cs) else none
   | some (.bx cs),some (.ptr _) => some (upsAll i 0 cs)
   | _,_ => none) with
  | some l => match outUps xs m is with
   | some l2 => some (l ++ l2)
   | none => none
  | none => none
def out1 (m : Ms) : AV → Option (V × Ms)
 | .bx r 0 => match (m r).1 with
  | some (.bx cs) => if cs.all C.noRf then some (.ptr cs,upd m r (none,[])) else none
  | _ => none
 | a => outV m a
def out? (F : PF) (L : AL) : Option (V × Ms) :=
 match F.res with
 | [r] => match resAV L r with
  | some a => out1 L.st.ms a
  | none => none
 | rs => match outVs L L.st.ms rs with
  | some (ys,m) => some (.tup ys,m)
  | none => none
def finish (F : PF) (xs : List V) (L : AL) : Option (V × List (Nat × Nat × C)) :=
 match out? F L with
 | some (x,m) => match outUps xs m F.io with
  | some us => some (x,us)
  | none => none
 | none => none
def V.argOk : V → Bool
 | .one c => c.noRf
 | .st cs | .ptr cs => cs.all C.noRf
 | .tup _ => false
noncomputable def prun (Γ : Env) (fuel : Nat) (F : PF) (xs : List V) : Option (V × List (Nat × Nat × C)) :=
 if xs.all V.argOk && F.io.all (fun i => ((initAL 0 xs).get i).2.isSome) then
  match pexec Γ fuel F.body (initAL 0 xs) with
  | .ret L | .norm L => finish F xs L
  | _ => none
 else none
end Go.Proofs.YtmlinnkaccgcgaaGreat.OM
