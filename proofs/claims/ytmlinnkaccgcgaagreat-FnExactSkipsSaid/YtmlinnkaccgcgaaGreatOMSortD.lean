/- The own machine: values sorted, by a contract. -/
import Derived.Test.YtmlinnkaccgcgaaGreatOMDef
set_option linter.all false
namespace Go.Proofs.YtmlinnkaccgcgaaGreat.OM
def lessD : List D → List D → Bool
 | [.int _ t,.int _ n,.str s],[.int _ t',.int _ n',.str s'] => if t = t' then (if n = n' then Op.bytesLess s.toList s'.toList else decide (n < n')) else decide (t < t')
 | _,_ => false
def cmpD (x y : List D) : Int:=if lessD x y = true then -1 else if lessD y x = true then 1 else 0
def valD : List D → Bool
 | [.int .i64 _,.int .i64 _,.str _] => true
 | _ => false
def sortD (es : List (List D)) : List (List D):=es.mergeSort fun x y => !lessD y x
def sortCalls : AL → Option (List (Nat × List V × V))
 | [(0,.pl 0 0 [],some (.vir [.own (.sl 3 es)])),(1,.v _ (.fn g []),none)] =>
  if es.all valD = true ∧ es.length < 4611686018427387904 then
   some (es.flatMap fun x => es.map fun y => (g,[.st (x.map (.ro false)),.st (y.map (.ro false))],.one (.ro false (.int .i64 (cmpD x y)))))
  else none
 | _ => none
def sortF : AL → Option AL
 | [(0,.pl 0 0 [],some (.vir [.own (.sl 3 es)])),(1,.v k (.fn g []),none)] =>
  some [(0,.pl 0 0 [],some (.vir [.own (.sl 3 (sortD es))])),(1,.v k (.fn g []),none)]
 | _ => none
end Go.Proofs.YtmlinnkaccgcgaaGreat.OM
