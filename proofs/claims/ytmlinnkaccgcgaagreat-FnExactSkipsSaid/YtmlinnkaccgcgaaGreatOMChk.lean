/- The own machine: what ties its code to the model's. -/
import Derived.Test.YtmlinnkaccgcgaaGreatOMOp1
set_option linter.all false
namespace Go.Proofs.YtmlinnkaccgcgaaGreat.OM
def chkC : AV → Value → Bool
 | .v false (.int k n),.int k' n' => decide (k = k') && decide (n = n')
 | .v false (.bool b),.bool b' => b == b'
 | .v false (.str s),.string s' => decide (s.data = s'.data)
 | .nl _,.slice none n c => n == 0 && c == 0
 | .un,_ => true
 | .tup [],.tuple vs => vs.size == 0
 | _,_ => false
def chkCs : List AV → List Value → Bool
 | [],[] => true
 | a :: as,v :: vs => chkC a v && chkCs as vs
 | _,_ => false
def chkX : PX → Operand → Bool
 | .t n,.tmp m => n == m
 | .c a,.const v => chkC a v
 | .c (.v false (.fn g [])),.func f => f == kap g
 | _,_ => false
def chkXs : List PX → List Operand → Bool
 | [],[] => true
 | a :: as,v :: vs => chkX a v && chkXs as vs
 | _,_ => false
def plainFs (P : Program) : Nat → List Field → List Nat → Bool
 | _,[],[] => true
 | i,f :: fs,k :: ks => f.name != "_" && f.offset == i && (match P.underlying f.type,k with
   | some (.int _),0 => true
   | some .bool,1 => true
   | some .string,2 => true
   | _,_ => false) && plainFs P (i + 1) fs ks
 | _,_,_ => false
def plainStruct (P : Program) (t : TypeId) (ks : List Nat) : Bool :=
 !P.stoodInHeld t && !P.eqGuardType P.depth t && match P.underlying t with
 | some (.struct fs) => plainFs P 0 fs.toList ks
 | _ => false
def aggT (P : Program) (t : TypeId) : Option Bool :=
 match P.underlying t with
 | some (.struct _) => some true
 | some (.array ..) => some true
 | some _ => some false
 | none => none
def elemT (P : Program) (t : TypeId) : Option TypeId :=
 match P.underlying t with
 | some (.slice e) => some e
 | _ => none
def zeroT (P : Program) (t : TypeId) : Option (List Value) :=
 match P.info? t with
 | some i => match i.zero with
  | some z => if z.cells.size = i.size then some z.cells.toList else none
  | none => none
 | none => none
def sizeT (P : Program) (t : TypeId) : Option (Nat × Nat) :=
 match P.info? t with
 | some i => some (i.size,i.bytes)
 | none => none
def fieldT (P : Program) (t : TypeId) (f : Nat) : Option (Nat × Nat) :=
 match P.underlying t with
 | some (.struct fs) => match fs[f]? with
  | some fd => match P.info? fd.type with
   | some i => some (fd.offset,i.size)
   | none => none
  | none => none
 | _ => none
def chkD : D → Value → Bool
 | .int k n,.int k' n' => decide (k = k') && decide (n = n')
 | .bool b,.bool b' => b == b'
 | .str s,.string s' => decide (s.data = s'.data)
 | .sl _ [],.slice none n c => n == 0 && c == 0
 | _,_ => false
def chkDs : List D → List Value → Bool
 | [],[] => true
 | a :: as,v :: vs => chkD a v && chkDs as vs
 | _,_ => false
def chkO? : Option PX → Option Operand → Bool
 | none,none => true
 | some x,some o => chkX x o
 | _,_ => false
def chkParts (at? : Nat → Option (Nat × Nat)) : List (Nat × PX) → List (Nat × Operand) → Bool
 | [],[] => true
 | (off,x) :: l,(i,o) :: l' => (match at? i with | some (off',_) => off == off' | none => false) && chkX x o && chkParts at? l l'
 | _,_ => false
def chkFields (at? : Nat → Option (Nat × Nat)) : List (Nat × Nat × PX) → List (Nat × Operand) → Bool
 | [],[] => true
 | (off,n,x) :: l,(i,o) :: l' => decide (at? i = some (off,n)) && chkX x o && chkFields at? l l'
 | _,_ => false
def rep {α : Type} (n : Nat) (l : List α) : List α:=(List.replicate n l).flatten
def bodyOk (P : Program) (f : FuncId) : Bool :=
 match P.funcs[f]? with
 | some fn => fn.body.isSome && fn.name != "runtime.NumGoroutine"
 | none => false
def chkOp (P : Program) (κ : Nat → FuncId) (o : POp) (op : Op) : Bool :=
 match o,op with
 | .mv x,.move a => chkX x a
 | .mv x,.assign a => chkX x a
 | .pick c a b,.pick c' a' b' => chkX c c' && chkX a a' && chkX b b'
 | .bin op x y,.binOp op' _ a b _ => decide (op = op') && chkX x a && chkX y b
 | .eqb neg x y,.binOp op' t a b _ => decide (op' = if neg then .neq else .eql) && chkX x a && chkX y b && (match P.underlying t with | some .bool => true | _ => false)
 | .eqs neg ks x y,.binOp op' t a b _ => decide (op' = if neg then .neq else .eql) && chkX x a && chkX y b && plainStruct P t ks
 | .un op x,.unOp op' _ a => decide (op = op') && chkX x a
 | .len x,.call c => match c.callee,c.args.toList,c.argTypes.toList with
  | .builtin .len,[a],[t] => chkX x a && (match P.underlying t with | some (.slice _) => true | _ => false)
  | _,_,_ => false
 | .lens x,.call c => match c.callee,c.args.toList,c.argTypes.toList with
  | .builtin .len,[a],[t] => chkX x a && (match P.underlying t with | some .string => true | _ => false)
  | _,_,_ => false
 | .box _ x,.box _ a => chkX x a
 | .alloc zs,.alloc t => match zeroT P t with
  | some z => chkCs zs z
  | none => false
 | .build z ps,.build t parts => (match zeroT P t with
  | some z' => chkCs z z'
  | none => false) && chkFields (fieldT P t) ps parts.toList && (match P.underlying t with
   | some (.struct fs) => fs.toList.all fun f => (P.info? f.type).isSome
   | _ => false)
 | .bsl sz z n ps,.buildSlice t n' parts => match elemT P t with
  | some e => match zeroT P e with
   | some z' => decide (n = n') && decide (z'.length = sz) && decide (n * sz ≤ 2 ^ 24) && chkDs z (rep n z') && chkParts (fun i => some (i * sz,sz)) ps parts.toList
   | none => false
  | none => false
 | .mks sz bytes z x,.makeSlice t l c => match elemT P t with
  | some e => match zeroT P e,sizeT P e with
   | some z',some (_,by') => decide (z'.length = sz) && decide (by' = bytes) && chkDs z z' && chkX x l && chkX x c && decide (0 < bytes)
   | _,_ => false
  | none => false
 | .ld agg n x,.load t a => match aggT P t,sizeT P t with
  | some agg',some (n',_) => agg == agg' && n == n' && chkX x a
  | _,_ => false
 | .st n x y,.store t a b => match sizeT P t with
  | some (n',_) => n == n' && chkX x a && chkX y b
  | none => false
 | .fad x off,.fieldAddr t a f => match fieldT P t f with
  | some (off',s) => off == off' && chkX x a && s != 0
  | none => false
 | .iad sz x i,.indexAddr t a b => match elemT P t with
  | some e => match sizeT P e with
   | some (s,_) => s == sz && chkX x a && chkX i b
   | none => false
  | none => false
 | .slc sz x lo hi,.slice t a lo' hi' mx => mx.isNone && chkX x a && chkO? lo lo' && chkO? hi hi' && (match elemT P t with | some e => (match sizeT P e with | some (s,_) => s == sz | none => false) | none => false)
 | .ext x k,.extract a k' => chkX x a && k == k'
 | .call f _ args,.call c => match c.callee with
  | .value (.func f') => f' == κ f && chkXs args c.args.toList && (match P.funcs[f']? with
   | some fn => fn.body.isSome && fn.name != "runtime.NumGoroutine"
   | none => false)
  | _ => false
 | .callm f i args,.call c => match c.callee with
  | .value (.func f') => f' == κ f && chkXs args c.args.toList && decide (i < args.length) && (match P.funcs[f']? with
   | some fn => fn.body.isSome && fn.name != "runtime.NumGoroutine"
   | none => false)
  | _ => false
 | .clr sz z x,.call c => match c.callee,c.args.toList,c.argTypes.toList with
  | .builtin .clear,[a],[t] => chkX x a && (match elemT P t with
   | some e => (match zeroT P e,sizeT P e with
    | some zv,some (s,_) => s == sz && chkDs z zv
    | _,_ => false)
   | none => false)
  | _,_,_ => false
 | .app sz bytes x y,.call c => match c.callee,c.args.toList,c.argTypes.toList with
  | .builtin .append,[a,b],[t,u] => chkX x a && chkX y b && (match elemT P t,elemT P u with
   | some e,some e' => e == e' && (match zeroT P e,sizeT P e with
    | some z,some (s,by') => s == sz && by' == bytes && z.length == sz && s != 0 && (bytes != 0)
    | _,_ => false)
   | _,_ => false)
  | _,_,_ => false
 | .apps x y,.call c => match c.callee,c.args.toList,c.argTypes.toList with
  | .builtin .append,[a,b],[t,u] => chkX x a && chkX y b && (match elemT P t,P.underlying u with
   | some e,some .string => (match zeroT P e,sizeT P e with
    | some z,some (s,by') => s == 1 && by' == 1 && z.length == 1
    | _,_ => false)
   | _,_ => false)
  | _,_,_ => false
 | .appf sz bytes x y,.call c => match c.callee,c.args.toList,c.argTypes.toList with
  | .builtin .append,[a,b],[t,u] => chkX x a && chkX y b && (match elemT P t,elemT P u with
   | some e,some e' => e == e' && (match zeroT P e,sizeT P e with
    | some z,some (s,by') => s == sz && by' == bytes && z.length == sz && s != 0 && (bytes != 0)
    | _,_ => false)
   | _,_ => false)
  | _,_,_ => false
 | .cvi k x,.convert s t a => chkX x a && (match P.underlying s,P.underlying t with
  | some _,some (.int k') => decide (k = k')
  | _,_ => false)
 | .cvs x,.convert s t a => chkX x a && (match P.underlying s,P.underlying t with
  | some (.slice e),some .string => (match P.underlying e with | some (.int .u8) => true | _ => false)
  | _,_ => false)
 | .idx x i,.index t a b => chkX x a && chkX i b && (match P.underlying t with | some .string => true | _ => false)
 | .mn x y,.call c => match c.callee,c.args.toList with
  | .builtin .min,[a,b] => chkX x a && chkX y b
  | _,_ => false
 | .mx x y,.call c => match c.callee,c.args.toList with
  | .builtin .max,[a,b] => chkX x a && chkX y b
  | _,_ => false
 | _,_ => false
end Go.Proofs.YtmlinnkaccgcgaaGreat.OM
