/- The program's types, and how their values lie in cells. -/
import Derived.Test.YtmlinnkaccgcgaaGreatOMLaw
import Derived.Test.YtmlinnkaccgcgaaGreatOMTac
set_option linter.all false
namespace Go.Proofs.YtmlinnkaccgcgaaGreat.OM
set_option linter.unusedVariables false
@[simp] def ei (n : Int) : List D:=[di n]
@[simp] def eb (n : Int) : List D:=[.int .u8 n]
structure XVal where
 Ty : Int
 N : Int
 S : ByteArray
 deriving Inhabited
@[simp] def XVal.e (x : XVal) : List D:=[di x.Ty,di x.N,.str x.S]
def XVal.ok (x : XVal) : Prop:=(-9223372036854775808 ≤ x.Ty ∧ x.Ty ≤ 9223372036854775807) ∧ (-9223372036854775808 ≤ x.N ∧ x.N ≤ 9223372036854775807) ∧ x.S.size ≤ 9223372036854775807
def XVal.oks (l : List XVal) : Prop:=∀ y ∈ l,XVal.ok y
def XVal.sm (x : XVal) : Prop:=x.S.size ≤ 1048576
def XVal.sms (l : List XVal) : Prop:=∀ y ∈ l,XVal.sm y
structure XRow where
 Id : Int
 L : List XVal
 deriving Inhabited
@[simp] def XRow.e (x : XRow) : List D:=[di x.Id,.sl 3 (x.L.map XVal.e)]
def XRow.ok (x : XRow) : Prop:=(-9223372036854775808 ≤ x.Id ∧ x.Id ≤ 9223372036854775807) ∧ x.L.length ≤ 9223372036854775807 ∧ XVal.oks x.L
def XRow.oks (l : List XRow) : Prop:=∀ y ∈ l,XRow.ok y
def XRow.sm (x : XRow) : Prop:=x.L.length ≤ 1048576 ∧ XVal.sms x.L
def XRow.sms (l : List XRow) : Prop:=∀ y ∈ l,XRow.sm y
structure XDead where
 Buf : Int
 Gen : Int
 At : Int
 deriving Inhabited
@[simp] def XDead.e (x : XDead) : List D:=[di x.Buf,di x.Gen,di x.At]
structure XRef where
 Buf : Int
 Gen : Int
 Kind : Int
 First : Int
 Many : Int
 deriving Inhabited
@[simp] def XRef.e (x : XRef) : List D:=[di x.Buf,di x.Gen,di x.Kind,di x.First,di x.Many]
def XRef.ok (x : XRef) : Prop:=(-9223372036854775808 ≤ x.Buf ∧ x.Buf ≤ 9223372036854775807) ∧ (-9223372036854775808 ≤ x.Gen ∧ x.Gen ≤ 9223372036854775807) ∧ (-9223372036854775808 ≤ x.Kind ∧ x.Kind ≤ 9223372036854775807) ∧ (-9223372036854775808 ≤ x.First ∧ x.First ≤ 9223372036854775807) ∧ (-9223372036854775808 ≤ x.Many ∧ x.Many ≤ 9223372036854775807)
def XRef.oks (l : List XRef) : Prop:=∀ y ∈ l,XRef.ok y
structure XDir where
 Ver : Int
 L : List XRef
 deriving Inhabited
@[simp] def XDir.e (x : XDir) : List D:=[di x.Ver,.sl 5 (x.L.map XRef.e)]
structure XSlot where
 Ins : Int
 L : List XVal
 deriving Inhabited
@[simp] def XSlot.e (x : XSlot) : List D:=[di x.Ins,.sl 3 (x.L.map XVal.e)]
def XSlot.ok (x : XSlot) : Prop:=(-9223372036854775808 ≤ x.Ins ∧ x.Ins ≤ 9223372036854775807) ∧ x.L.length ≤ 9223372036854775807 ∧ XVal.oks x.L
def XSlot.oks (l : List XSlot) : Prop:=∀ y ∈ l,XSlot.ok y
def XSlot.sm (x : XSlot) : Prop:=x.L.length ≤ 1048576 ∧ XVal.sms x.L
def XSlot.sms (l : List XSlot) : Prop:=∀ y ∈ l,XSlot.sm y
structure XChunk where
 Next : Int
 L : List XSlot
 deriving Inhabited
@[simp] def XChunk.e (x : XChunk) : List D:=[di x.Next,.sl 2 (x.L.map XSlot.e)]
def XChunk.ok (x : XChunk) : Prop:=(-9223372036854775808 ≤ x.Next ∧ x.Next ≤ 9223372036854775807) ∧ x.L.length ≤ 9223372036854775807 ∧ XSlot.oks x.L
def XChunk.sm (x : XChunk) : Prop:=x.L.length ≤ 1048576 ∧ XSlot.sms x.L
structure XBuf where
 Gen : Int
 Kind : Int
 C : XChunk
 G : List Int
 deriving Inhabited
@[simp] def XBuf.e (x : XBuf) : List D:=[di x.Gen,di x.Kind,di x.C.Next,.sl 2 (x.C.L.map XSlot.e),.sl 1 (x.G.map eb)]
def XBuf.ok (x : XBuf) : Prop:=(-9223372036854775808 ≤ x.Gen ∧ x.Gen ≤ 9223372036854775807) ∧ (-9223372036854775808 ≤ x.Kind ∧ x.Kind ≤ 9223372036854775807) ∧ XChunk.ok x.C ∧ x.G.length ≤ 9223372036854775807 ∧ (∀ y ∈ x.G,(0 ≤ y ∧ y ≤ 255))
def XBuf.oks (l : List XBuf) : Prop:=∀ y ∈ l,XBuf.ok y
def XBuf.sm (x : XBuf) : Prop:=XChunk.sm x.C ∧ x.G.length ≤ 1048576
def XBuf.sms (l : List XBuf) : Prop:=∀ y ∈ l,XBuf.sm y
structure XConf where
 Cols : List Int
 Slots : Int
 Bufs : Int
 deriving Inhabited
@[simp] def XConf.e (x : XConf) : List D:=[.sl 1 (x.Cols.map ei),di x.Slots,di x.Bufs]
structure XPred where
 Kind : Int
 Col : Int
 Op : Int
 V : XVal
 L : List XPred
instance : Inhabited XPred:=⟨⟨0,0,0,default,[]⟩⟩
mutual
def XPred.e : XPred → List D
 | ⟨k,c,o,v,l⟩ => [di k,di c,di o,di v.Ty,di v.N,.str v.S,.sl 7 (XPred.es l)]
def XPred.es : List XPred → List (List D)
 | [] => []
 | x :: l => XPred.e x :: XPred.es l
end
theorem XPred.es_eq : ∀ l,XPred.es l = l.map XPred.e
 | [] => rfl
 | x :: l => by simp only [XPred.es,List.map_cons,XPred.es_eq l]
@[simp] theorem XPred.e_eq (x : XPred) : x.e = [di x.Kind,di x.Col,di x.Op,di x.V.Ty,di x.V.N,.str x.V.S,.sl 7 (x.L.map XPred.e)]:=by
 cases x; simp only [XPred.e,XPred.es_eq]
mutual
def XPred.ok : XPred → Prop
 | ⟨k,c,o,v,l⟩ => (-9223372036854775808 ≤ k ∧ k ≤ 9223372036854775807) ∧ (-9223372036854775808 ≤ c ∧ c ≤ 9223372036854775807) ∧ (-9223372036854775808 ≤ o ∧ o ≤ 9223372036854775807) ∧ XVal.ok v ∧ l.length ≤ 9223372036854775807 ∧ XPred.oks l
def XPred.oks : List XPred → Prop
 | [] => True
 | x :: l => XPred.ok x ∧ XPred.oks l
end
theorem XPred.oks_eq : ∀ l,XPred.oks l = ∀ y ∈ l,XPred.ok y
 | [] => by simp [XPred.oks]
 | x :: l => by simp [XPred.oks,XPred.oks_eq l]
theorem XPred.oks_mem {l : List XPred} (h : XPred.oks l) : ∀ y ∈ l,XPred.ok y:=by rw [XPred.oks_eq] at h; exact h
theorem XPred.ok_eq (x : XPred) : x.ok = ((-9223372036854775808 ≤ x.Kind ∧ x.Kind ≤ 9223372036854775807) ∧ (-9223372036854775808 ≤ x.Col ∧ x.Col ≤ 9223372036854775807) ∧ (-9223372036854775808 ≤ x.Op ∧ x.Op ≤ 9223372036854775807) ∧ XVal.ok x.V ∧ x.L.length ≤ 9223372036854775807 ∧ XPred.oks x.L):=by
 cases x; simp only [XPred.ok]
mutual
def XPred.sm : XPred → Prop
 | ⟨k,c,o,v,l⟩ => XVal.sm v ∧ l.length ≤ 1048576 ∧ XPred.sms l
def XPred.sms : List XPred → Prop
 | [] => True
 | x :: l => XPred.sm x ∧ XPred.sms l
end
theorem XPred.sms_eq : ∀ l,XPred.sms l = ∀ y ∈ l,XPred.sm y
 | [] => by simp [XPred.sms]
 | x :: l => by simp [XPred.sms,XPred.sms_eq l]
theorem XPred.sms_mem {l : List XPred} (h : XPred.sms l) : ∀ y ∈ l,XPred.sm y:=by rw [XPred.sms_eq] at h; exact h
theorem XPred.sm_eq (x : XPred) : x.sm = (XVal.sm x.V ∧ x.L.length ≤ 1048576 ∧ XPred.sms x.L):=by
 cases x; simp only [XPred.sm]
structure XQuery where
 Kind : Int
 P : XPred
 Col : Int
 Out : List Int
 deriving Inhabited
@[simp] def XQuery.e (x : XQuery) : List D:=[di x.Kind,di x.P.Kind,di x.P.Col,di x.P.Op,di x.P.V.Ty,di x.P.V.N,.str x.P.V.S,.sl 7 (x.P.L.map XPred.e),di x.Col,.sl 1 (x.Out.map ei)]
def XQuery.ok (x : XQuery) : Prop:=(-9223372036854775808 ≤ x.Kind ∧ x.Kind ≤ 9223372036854775807) ∧ XPred.ok x.P ∧ (-9223372036854775808 ≤ x.Col ∧ x.Col ≤ 9223372036854775807) ∧ x.Out.length ≤ 9223372036854775807 ∧ (∀ y ∈ x.Out,(-9223372036854775808 ≤ y ∧ y ≤ 9223372036854775807))
def XQuery.sm (x : XQuery) : Prop:=XPred.sm x.P ∧ x.Out.length ≤ 1048576
structure XResult where
 Rows : List XRow
 N : Int
 Has : Bool
 V : XVal
 deriving Inhabited
@[simp] def XResult.e (x : XResult) : List D:=[.sl 2 (x.Rows.map XRow.e),di x.N,.bool x.Has,di x.V.Ty,di x.V.N,.str x.V.S]
def XResult.ok (x : XResult) : Prop:=x.Rows.length ≤ 9223372036854775807 ∧ XRow.oks x.Rows ∧ (-9223372036854775808 ≤ x.N ∧ x.N ≤ 9223372036854775807) ∧ XVal.ok x.V
def XResult.sm (x : XResult) : Prop:=x.Rows.length ≤ 1048576 ∧ XRow.sms x.Rows ∧ XVal.sm x.V
structure XTask where
 Op : Int
 Pc : Int
 H : Int
 R : List XVal
 Id : Int
 Q : XQuery
 Ts : Int
 Ver : Int
 L : List XRef
 I : Int
 J : Int
 S : Int
 At : Int
 Own : Int
 Won : Bool
 Got : List XRow
 deriving Inhabited
@[simp] def XTask.e (x : XTask) : List D:=[di x.Op,di x.Pc,di x.H,.sl 3 (x.R.map XVal.e),di x.Id,di x.Q.Kind,di x.Q.P.Kind,di x.Q.P.Col,di x.Q.P.Op,di x.Q.P.V.Ty,di x.Q.P.V.N,.str x.Q.P.V.S,.sl 7 (x.Q.P.L.map XPred.e),di x.Q.Col,.sl 1 (x.Q.Out.map ei),di x.Ts,di x.Ver,.sl 5 (x.L.map XRef.e),di x.I,di x.J,di x.S,di x.At,di x.Own,.bool x.Won,.sl 2 (x.Got.map XRow.e)]
def XTask.ok (x : XTask) : Prop:=(-9223372036854775808 ≤ x.Op ∧ x.Op ≤ 9223372036854775807) ∧ (-9223372036854775808 ≤ x.Pc ∧ x.Pc ≤ 9223372036854775807) ∧ (-9223372036854775808 ≤ x.H ∧ x.H ≤ 9223372036854775807) ∧ x.R.length ≤ 9223372036854775807 ∧ XVal.oks x.R ∧ (-9223372036854775808 ≤ x.Id ∧ x.Id ≤ 9223372036854775807) ∧ XQuery.ok x.Q ∧ (-9223372036854775808 ≤ x.Ts ∧ x.Ts ≤ 9223372036854775807) ∧ (-9223372036854775808 ≤ x.Ver ∧ x.Ver ≤ 9223372036854775807) ∧ x.L.length ≤ 9223372036854775807 ∧ XRef.oks x.L ∧ (-9223372036854775808 ≤ x.I ∧ x.I ≤ 9223372036854775807) ∧ (-9223372036854775808 ≤ x.J ∧ x.J ≤ 9223372036854775807) ∧ (-9223372036854775808 ≤ x.S ∧ x.S ≤ 9223372036854775807) ∧ (-9223372036854775808 ≤ x.At ∧ x.At ≤ 9223372036854775807) ∧ (-9223372036854775808 ≤ x.Own ∧ x.Own ≤ 9223372036854775807) ∧ x.Got.length ≤ 9223372036854775807 ∧ XRow.oks x.Got
def XTask.oks (l : List XTask) : Prop:=∀ y ∈ l,XTask.ok y
def XTask.sm (x : XTask) : Prop:=x.R.length ≤ 1048576 ∧ XVal.sms x.R ∧ XQuery.sm x.Q ∧ x.L.length ≤ 1048576 ∧ x.Got.length ≤ 1048576 ∧ XRow.sms x.Got
def XTask.sms (l : List XTask) : Prop:=∀ y ∈ l,XTask.sm y
structure XDeed where
 Op : Int
 Task : Int
 R : List XVal
 Id : Int
 Q : XQuery
 Res : XResult
 Code : Int
 Stamp : Int
 Inv : Int
 Lin : Int
 Ret : Int
 deriving Inhabited
@[simp] def XDeed.e (x : XDeed) : List D:=[di x.Op,di x.Task,.sl 3 (x.R.map XVal.e),di x.Id,di x.Q.Kind,di x.Q.P.Kind,di x.Q.P.Col,di x.Q.P.Op,di x.Q.P.V.Ty,di x.Q.P.V.N,.str x.Q.P.V.S,.sl 7 (x.Q.P.L.map XPred.e),di x.Q.Col,.sl 1 (x.Q.Out.map ei),.sl 2 (x.Res.Rows.map XRow.e),di x.Res.N,.bool x.Res.Has,di x.Res.V.Ty,di x.Res.V.N,.str x.Res.V.S,di x.Code,di x.Stamp,di x.Inv,di x.Lin,di x.Ret]
def XDeed.ok (x : XDeed) : Prop:=(-9223372036854775808 ≤ x.Op ∧ x.Op ≤ 9223372036854775807) ∧ (-9223372036854775808 ≤ x.Task ∧ x.Task ≤ 9223372036854775807) ∧ x.R.length ≤ 9223372036854775807 ∧ XVal.oks x.R ∧ (-9223372036854775808 ≤ x.Id ∧ x.Id ≤ 9223372036854775807) ∧ XQuery.ok x.Q ∧ XResult.ok x.Res ∧ (-9223372036854775808 ≤ x.Code ∧ x.Code ≤ 9223372036854775807) ∧ (-9223372036854775808 ≤ x.Stamp ∧ x.Stamp ≤ 9223372036854775807) ∧ (-9223372036854775808 ≤ x.Inv ∧ x.Inv ≤ 9223372036854775807) ∧ (-9223372036854775808 ≤ x.Lin ∧ x.Lin ≤ 9223372036854775807) ∧ (-9223372036854775808 ≤ x.Ret ∧ x.Ret ≤ 9223372036854775807)
def XDeed.oks (l : List XDeed) : Prop:=∀ y ∈ l,XDeed.ok y
def XDeed.sm (x : XDeed) : Prop:=x.R.length ≤ 1048576 ∧ XVal.sms x.R ∧ XQuery.sm x.Q ∧ XResult.sm x.Res
def XDeed.sms (l : List XDeed) : Prop:=∀ y ∈ l,XDeed.sm y
structure XWorld where
 C : XConf
 Time : Int
 T : Int
 E : Int
 Dd : XDir
 B : List XBuf
 M : List Int
 X : List XDead
 P : List Int
 Tasks : List XTask
 Deeds : List XDeed
 deriving Inhabited
@[simp] def XWorld.e (x : XWorld) : List D:=[.sl 1 (x.C.Cols.map ei),di x.C.Slots,di x.C.Bufs,di x.Time,di x.T,di x.E,di x.Dd.Ver,.sl 5 (x.Dd.L.map XRef.e),.sl 5 (x.B.map XBuf.e),.sl 1 (x.M.map ei),.sl 3 (x.X.map XDead.e),.sl 1 (x.P.map ei),.sl 25 (x.Tasks.map XTask.e),.sl 25 (x.Deeds.map XDeed.e)]
structure XEvent where
 Kind : Int
 K : Int
 R : List XVal
 Id : Int
 Q : XQuery
 deriving Inhabited
@[simp] def XEvent.e (x : XEvent) : List D:=[di x.Kind,di x.K,.sl 3 (x.R.map XVal.e),di x.Id,di x.Q.Kind,di x.Q.P.Kind,di x.Q.P.Col,di x.Q.P.Op,di x.Q.P.V.Ty,di x.Q.P.V.N,.str x.Q.P.V.S,.sl 7 (x.Q.P.L.map XPred.e),di x.Q.Col,.sl 1 (x.Q.Out.map ei)]
structure XTable where
 Cols : List Int
 L : List XRow
 deriving Inhabited
@[simp] def XTable.e (x : XTable) : List D:=[.sl 1 (x.Cols.map ei),.sl 2 (x.L.map XRow.e)]
end Go.Proofs.YtmlinnkaccgcgaaGreat.OM
