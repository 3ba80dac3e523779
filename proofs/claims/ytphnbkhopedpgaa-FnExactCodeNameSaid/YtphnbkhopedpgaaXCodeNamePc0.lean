/- The texts of the functions, as the own machine runs them. -/
import Derived.Test.YtphnbkhopedpgaaOMDef
set_option linter.all false
namespace Go.Proofs.Ytphnbkhopedpgaa.OM
set_option maxRecDepth 100000

-- loop.example/g00496/impl.CodeName
def pb11 : PC :=
.seq (.reg [0] [] [
   ⟨some 2, .mv (.c (.v false (.str ⟨#[]⟩))), none⟩] none)
 (.seq (.seq (.reg [0, 5] [] [
     ⟨some 3, .mv (.t 0), none⟩,
     ⟨some 4, .call 87 [] [(.t 3), (.c (.v false (.int .i64 0))), (.c (.v false (.int .i64 5)))], none⟩,
     ⟨some 5, .un .not (.t 4), none⟩] none)
   (.cond (.t 5) (.seq (.reg [2] [] [
       ⟨some 2, .mv (.c (.v false (.str ⟨#[]⟩))), none⟩] none)
     (.ret))
    (.skip)))
  (.seq (.reg [2] [(6, 2)] [
     ⟨some 6, .bsl 1 [.str ⟨#[]⟩, .str ⟨#[]⟩, .str ⟨#[]⟩, .str ⟨#[]⟩, .str ⟨#[]⟩, .str ⟨#[]⟩] 6 [(0, (.c (.v false (.str ⟨#[111, 112, 101, 110]⟩)))), (1, (.c (.v false (.str ⟨#[100, 111, 110, 101]⟩)))), (2, (.c (.v false (.str ⟨#[110, 111, 110, 101]⟩)))), (3, (.c (.v false (.str ⟨#[102, 117, 108, 108]⟩)))), (4, (.c (.v false (.str ⟨#[102, 111, 114, 109]⟩)))), (5, (.c (.v false (.str ⟨#[108, 111, 115, 116]⟩))))], none⟩,
     ⟨some 7, .mv (.t 0), none⟩,
     ⟨some 8, .iad 1 (.t 6) (.t 7), none⟩,
     ⟨some 9, .ld false 1 (.t 8), none⟩,
     ⟨some 2, .mv (.t 9), none⟩] none)
   (.ret)))

def pf11 : PF := ⟨[.s 2], [], pb11⟩

-- loop.example/g00496/impl.within
def pb87 : PC :=
.seq (.reg [0, 1, 2] [] [
   ⟨some 6, .mv (.c (.v false (.bool false))), none⟩] none)
 (.seq (.reg [6] [] [
    ⟨some 7, .mv (.t 0), none⟩,
    ⟨some 8, .mv (.t 1), none⟩,
    ⟨some 9, .bin .geq (.t 7) (.t 8), none⟩,
    ⟨some 10, .mv (.t 9), none⟩,
    ⟨some 11, .mv (.t 0), some (10, true)⟩,
    ⟨some 12, .mv (.t 2), some (10, true)⟩,
    ⟨some 13, .bin .leq (.t 11) (.t 12), some (10, true)⟩,
    ⟨some 14, .pick (.t 10) (.t 13) (.c (.v false (.bool false))), none⟩,
    ⟨some 6, .mv (.t 14), none⟩] none)
  (.ret))

def pf87 : PF := ⟨[.s 6], [], pb87⟩

-- loop.example/g00496/laws.FnExactCodeName
def pb95 : PC :=
.seq (.reg [0] [] [
   ⟨some 2, .mv (.c (.v false (.bool false))), none⟩] none)
 (.seq (.reg [0, 3] [(6, 3)] [
    ⟨some 5, .mv (.t 0), none⟩,
    ⟨some 6, .call 267 [] [(.t 5)], none⟩,
    ⟨some 3, .mv (.t 6), none⟩] none)
  (.seq (.reg [3, 4] [(8, 4)] [
     ⟨some 7, .mv (.t 0), none⟩,
     ⟨some 8, .call 11 [] [(.t 7)], none⟩,
     ⟨some 4, .mv (.t 8), none⟩] none)
   (.seq (.seq (.reg [11] [] [
       ⟨some 9, .mv (.t 4), none⟩,
       ⟨some 10, .mv (.t 3), none⟩,
       ⟨some 11, .bin .neq (.t 9) (.t 10), none⟩] none)
     (.cond (.t 11) (.seq (.reg [2] [] [
         ⟨some 2, .mv (.c (.v false (.bool false))), none⟩] none)
       (.ret))
      (.skip)))
    (.seq (.reg [2] [] [
       ⟨some 2, .mv (.c (.v false (.bool true))), none⟩] none)
     (.ret)))))

def pf95 : PF := ⟨[.s 2], [], pb95⟩

-- loop.example/g00496/spec.CodeName
def pb267 : PC :=
.seq (.reg [0] [] [
   ⟨some 2, .mv (.c (.v false (.str ⟨#[]⟩))), none⟩] none)
 (.seq (.reg [0, 3] [(4, 3)] [
    ⟨some 4, .bsl 1 [.str ⟨#[]⟩, .str ⟨#[]⟩, .str ⟨#[]⟩, .str ⟨#[]⟩, .str ⟨#[]⟩, .str ⟨#[]⟩] 6 [(0, (.c (.v false (.str ⟨#[111, 112, 101, 110]⟩)))), (1, (.c (.v false (.str ⟨#[100, 111, 110, 101]⟩)))), (2, (.c (.v false (.str ⟨#[110, 111, 110, 101]⟩)))), (3, (.c (.v false (.str ⟨#[102, 117, 108, 108]⟩)))), (4, (.c (.v false (.str ⟨#[102, 111, 114, 109]⟩)))), (5, (.c (.v false (.str ⟨#[108, 111, 115, 116]⟩))))], none⟩,
    ⟨some 3, .mv (.t 4), none⟩] none)
  (.seq (.seq (.reg [0, 3, 10] [] [
      ⟨some 5, .mv (.t 0), none⟩,
      ⟨some 6, .mv (.t 3), none⟩,
      ⟨some 7, .len (.t 6), none⟩,
      ⟨some 8, .bin .sub (.t 7) (.c (.v false (.int .i64 1))), none⟩,
      ⟨some 9, .call 377 [] [(.t 5), (.c (.v false (.int .i64 0))), (.t 8)], none⟩,
      ⟨some 10, .un .not (.t 9), none⟩] none)
    (.cond (.t 10) (.seq (.reg [2] [] [
        ⟨some 2, .mv (.c (.v false (.str ⟨#[]⟩))), none⟩] none)
      (.ret))
     (.skip)))
   (.seq (.reg [2, 3] [] [
      ⟨some 11, .mv (.t 3), none⟩,
      ⟨some 12, .mv (.t 0), none⟩,
      ⟨some 13, .iad 1 (.t 11) (.t 12), none⟩,
      ⟨some 14, .ld false 1 (.t 13), none⟩,
      ⟨some 2, .mv (.t 14), none⟩] none)
    (.ret))))

def pf267 : PF := ⟨[.s 2], [], pb267⟩

-- loop.example/g00496/spec.l1In
def pb377 : PC :=
.seq (.reg [0, 1, 2] [] [
   ⟨some 6, .mv (.c (.v false (.bool false))), none⟩] none)
 (.seq (.reg [6] [] [
    ⟨some 7, .mv (.t 0), none⟩,
    ⟨some 8, .mv (.t 1), none⟩,
    ⟨some 9, .bin .geq (.t 7) (.t 8), none⟩,
    ⟨some 10, .mv (.t 9), none⟩,
    ⟨some 11, .mv (.t 0), some (10, true)⟩,
    ⟨some 12, .mv (.t 2), some (10, true)⟩,
    ⟨some 13, .bin .leq (.t 11) (.t 12), some (10, true)⟩,
    ⟨some 14, .pick (.t 10) (.t 13) (.c (.v false (.bool false))), none⟩,
    ⟨some 6, .mv (.t 14), none⟩] none)
  (.ret))

def pf377 : PF := ⟨[.s 6], [], pb377⟩

end Go.Proofs.Ytphnbkhopedpgaa.OM
