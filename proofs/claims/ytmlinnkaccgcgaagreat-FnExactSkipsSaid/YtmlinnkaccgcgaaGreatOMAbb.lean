/- The own machine: short words for its rows. -/
import Derived.Test.YtmlinnkaccgcgaaGreatOMSortD
set_option linter.all false
namespace Go.Proofs.YtmlinnkaccgcgaaGreat.OM
abbrev Am (d x : Nat) : PO:=⟨some d,.mv (.t x),none⟩
abbrev Ak (d : Nat) (n : Int) : PO:=⟨some d,.mv (.c (.v false (.int .i64 n))),none⟩
abbrev Ac (d : Nat) (a : AV) : PO:=⟨some d,.mv (.c a),none⟩
abbrev Ab (op : BinOp) (d x y : Nat) : PO:=⟨some d,.bin op (.t x) (.t y),none⟩
abbrev Ae (op : BinOp) (d x : Nat) (n : Int) : PO:=⟨some d,.bin op (.t x) (.c (.v false (.int .i64 n))),none⟩
abbrev Ai (n d x y : Nat) : PO:=⟨some d,.iad n (.t x) (.t y),none⟩
abbrev Al (d x : Nat) : PO:=⟨some d,.ld false 1 (.t x),none⟩
abbrev AL' (n d x : Nat) : PO:=⟨some d,.ld true n (.t x),none⟩
abbrev Af (d x o : Nat) : PO:=⟨some d,.fad (.t x) o,none⟩
abbrev An (d x : Nat) : PO:=⟨some d,.nck (.t x),none⟩
abbrev Ax (d x k : Nat) : PO:=⟨some d,.ext (.t x) k,none⟩
abbrev Az (d x : Nat) : PO:=⟨some d,.len (.t x),none⟩
abbrev At (d x : Nat) : PO:=⟨some d,.un .not (.t x),none⟩
abbrev Ac1 (f d x : Nat) : PO:=⟨some d,.call f [] [.t x],none⟩
abbrev Ac2 (f d x y : Nat) : PO:=⟨some d,.call f [] [.t x,.t y],none⟩
abbrev Ac3 (f d x y z : Nat) : PO:=⟨some d,.call f [] [.t x,.t y,.t z],none⟩
abbrev As (n x y : Nat) : PO:=⟨none,.st n (.t x) (.t y),none⟩
abbrev Ao (d : Nat) (op : POp) : PO:=⟨some d,op,none⟩
abbrev Ag (d : Nat) (op : POp) (t : Nat) : PO:=⟨some d,op,some (t,true)⟩
abbrev Ah (d : Nat) (op : POp) (t : Nat) : PO:=⟨some d,op,some (t,false)⟩
abbrev Ar (l : List Nat) (ops : List PO) : PC:=.reg l [] ops none
abbrev Aq (l : List Nat) (ops : List PO) : PC:=.reg l [] ops (some [])
abbrev An1 (l : List Nat) (a b : Nat) (ops : List PO) : PC:=.reg l [(a,b)] ops none
abbrev At1 (x : Nat) (a : PC) : PC:=.cond (.t x) a .skip
abbrev Aj (x : Nat) (n : Nat) : PC:=.cond (.t x) .skip (.exit n)
abbrev Av (n : Int) : PX:=.c (.v false (.int .i64 n))
abbrev Aw (b : Bool) : PX:=.c (.v false (.bool b))
abbrev A0 : AV:=.v false (.int .i64 0)
abbrev A1 : AV:=.v false (.str ⟨#[]⟩)
abbrev A2 : D:=.int .i64 0
abbrev A3 : D:=.str ⟨#[]⟩
abbrev Ap (d x y z : Nat) : PO:=⟨some d,.pick (.t x) (.t y) (.t z),none⟩
abbrev Ap1 (d x : Nat) (b : Bool) (z : Nat) : PO:=⟨some d,.pick (.t x) (.c (.v false (.bool b))) (.t z),none⟩
abbrev Ap2 (d x y : Nat) (b : Bool) : PO:=⟨some d,.pick (.t x) (.t y) (.c (.v false (.bool b))),none⟩
end Go.Proofs.YtmlinnkaccgcgaaGreat.OM
