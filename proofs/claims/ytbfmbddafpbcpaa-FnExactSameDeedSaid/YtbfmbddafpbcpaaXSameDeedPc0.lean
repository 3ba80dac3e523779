/- The texts of the functions, as the own machine runs them. -/
import Derived.Test.YtbfmbddafpbcpaaOMDef
set_option linter.all false
namespace Go.Proofs.Ytbfmbddafpbcpaa.OM
set_option maxRecDepth 100000

-- loop.example/g00496/impl.SameDeed
def pb46 : PC :=
.seq (.reg [2, 3] [] [
   ⟨some 2, .box 25 (.t 0), none⟩,
   ⟨some 3, .box 25 (.t 1), none⟩,
   ⟨some 4, .mv (.c (.v false (.bool false))), none⟩] none)
 (.seq (.reg [4, 36, 43] [(22, 4)] [
    ⟨some 5, .fad (.t 2) 0, none⟩,
    ⟨some 6, .ld false 1 (.t 5), none⟩,
    ⟨some 7, .fad (.t 3) 0, none⟩,
    ⟨some 8, .ld false 1 (.t 7), none⟩,
    ⟨some 9, .bin .eql (.t 6) (.t 8), none⟩,
    ⟨some 10, .mv (.t 9), none⟩,
    ⟨some 11, .fad (.t 2) 1, some (10, true)⟩,
    ⟨some 12, .ld false 1 (.t 11), some (10, true)⟩,
    ⟨some 13, .fad (.t 3) 1, some (10, true)⟩,
    ⟨some 14, .ld false 1 (.t 13), some (10, true)⟩,
    ⟨some 15, .bin .eql (.t 12) (.t 14), some (10, true)⟩,
    ⟨some 16, .pick (.t 10) (.t 15) (.c (.v false (.bool false))), none⟩,
    ⟨some 17, .mv (.t 16), none⟩,
    ⟨some 18, .fad (.t 2) 2, some (17, true)⟩,
    ⟨some 19, .ld false 1 (.t 18), some (17, true)⟩,
    ⟨some 20, .fad (.t 3) 2, some (17, true)⟩,
    ⟨some 21, .ld false 1 (.t 20), some (17, true)⟩,
    ⟨some 22, .call 52 [] [(.t 19), (.t 21)], some (17, true)⟩,
    ⟨some 23, .pick (.t 17) (.t 22) (.c (.v false (.bool false))), none⟩,
    ⟨some 24, .mv (.t 23), none⟩,
    ⟨some 25, .fad (.t 2) 3, some (24, true)⟩,
    ⟨some 26, .ld false 1 (.t 25), some (24, true)⟩,
    ⟨some 27, .fad (.t 3) 3, some (24, true)⟩,
    ⟨some 28, .ld false 1 (.t 27), some (24, true)⟩,
    ⟨some 29, .bin .eql (.t 26) (.t 28), some (24, true)⟩,
    ⟨some 30, .pick (.t 24) (.t 29) (.c (.v false (.bool false))), none⟩,
    ⟨some 31, .mv (.t 30), none⟩,
    ⟨some 32, .fad (.t 2) 4, some (31, true)⟩,
    ⟨some 33, .ld true 10 (.t 32), some (31, true)⟩,
    ⟨some 34, .fad (.t 3) 4, some (31, true)⟩,
    ⟨some 35, .ld true 10 (.t 34), some (31, true)⟩,
    ⟨some 36, .call 86 [] [(.t 33), (.t 35)], some (31, true)⟩,
    ⟨some 37, .pick (.t 31) (.t 36) (.c (.v false (.bool false))), none⟩,
    ⟨some 38, .mv (.t 37), none⟩,
    ⟨some 39, .fad (.t 2) 14, some (38, true)⟩,
    ⟨some 40, .ld true 6 (.t 39), some (38, true)⟩,
    ⟨some 41, .fad (.t 3) 14, some (38, true)⟩,
    ⟨some 42, .ld true 6 (.t 41), some (38, true)⟩,
    ⟨some 43, .call 49 [] [(.t 40), (.t 42)], some (38, true)⟩,
    ⟨some 44, .pick (.t 38) (.t 43) (.c (.v false (.bool false))), none⟩,
    ⟨some 45, .mv (.t 44), none⟩,
    ⟨some 46, .fad (.t 2) 20, some (45, true)⟩,
    ⟨some 47, .ld false 1 (.t 46), some (45, true)⟩,
    ⟨some 48, .fad (.t 3) 20, some (45, true)⟩,
    ⟨some 49, .ld false 1 (.t 48), some (45, true)⟩,
    ⟨some 50, .bin .eql (.t 47) (.t 49), some (45, true)⟩,
    ⟨some 51, .pick (.t 45) (.t 50) (.c (.v false (.bool false))), none⟩,
    ⟨some 52, .mv (.t 51), none⟩,
    ⟨some 53, .fad (.t 2) 21, some (52, true)⟩,
    ⟨some 54, .ld false 1 (.t 53), some (52, true)⟩,
    ⟨some 55, .fad (.t 3) 21, some (52, true)⟩,
    ⟨some 56, .ld false 1 (.t 55), some (52, true)⟩,
    ⟨some 57, .bin .eql (.t 54) (.t 56), some (52, true)⟩,
    ⟨some 58, .pick (.t 52) (.t 57) (.c (.v false (.bool false))), none⟩,
    ⟨some 59, .mv (.t 58), none⟩,
    ⟨some 60, .fad (.t 2) 22, some (59, true)⟩,
    ⟨some 61, .ld false 1 (.t 60), some (59, true)⟩,
    ⟨some 62, .fad (.t 3) 22, some (59, true)⟩,
    ⟨some 63, .ld false 1 (.t 62), some (59, true)⟩,
    ⟨some 64, .bin .eql (.t 61) (.t 63), some (59, true)⟩,
    ⟨some 65, .pick (.t 59) (.t 64) (.c (.v false (.bool false))), none⟩,
    ⟨some 66, .mv (.t 65), none⟩,
    ⟨some 67, .fad (.t 2) 23, some (66, true)⟩,
    ⟨some 68, .ld false 1 (.t 67), some (66, true)⟩,
    ⟨some 69, .fad (.t 3) 23, some (66, true)⟩,
    ⟨some 70, .ld false 1 (.t 69), some (66, true)⟩,
    ⟨some 71, .bin .eql (.t 68) (.t 70), some (66, true)⟩,
    ⟨some 72, .pick (.t 66) (.t 71) (.c (.v false (.bool false))), none⟩,
    ⟨some 73, .mv (.t 72), none⟩,
    ⟨some 74, .fad (.t 2) 24, some (73, true)⟩,
    ⟨some 75, .ld false 1 (.t 74), some (73, true)⟩,
    ⟨some 76, .fad (.t 3) 24, some (73, true)⟩,
    ⟨some 77, .ld false 1 (.t 76), some (73, true)⟩,
    ⟨some 78, .bin .eql (.t 75) (.t 77), some (73, true)⟩,
    ⟨some 79, .pick (.t 73) (.t 78) (.c (.v false (.bool false))), none⟩,
    ⟨some 4, .mv (.t 79), none⟩] none)
  (.ret))

def pf46 : PF := ⟨[.s 4], [], pb46⟩

-- loop.example/g00496/impl.SameResult
def pb49 : PC :=
.seq (.reg [2, 3] [] [
   ⟨some 2, .box 6 (.t 0), none⟩,
   ⟨some 3, .box 6 (.t 1), none⟩,
   ⟨some 4, .mv (.c (.v false (.bool false))), none⟩] none)
 (.seq (.reg [4] [(9, 4)] [
    ⟨some 5, .fad (.t 2) 0, none⟩,
    ⟨some 6, .ld false 1 (.t 5), none⟩,
    ⟨some 7, .fad (.t 3) 0, none⟩,
    ⟨some 8, .ld false 1 (.t 7), none⟩,
    ⟨some 9, .call 51 [] [(.t 6), (.t 8)], none⟩,
    ⟨some 10, .mv (.t 9), none⟩,
    ⟨some 11, .fad (.t 2) 1, some (10, true)⟩,
    ⟨some 12, .ld false 1 (.t 11), some (10, true)⟩,
    ⟨some 13, .fad (.t 3) 1, some (10, true)⟩,
    ⟨some 14, .ld false 1 (.t 13), some (10, true)⟩,
    ⟨some 15, .bin .eql (.t 12) (.t 14), some (10, true)⟩,
    ⟨some 16, .pick (.t 10) (.t 15) (.c (.v false (.bool false))), none⟩,
    ⟨some 17, .mv (.t 16), none⟩,
    ⟨some 18, .fad (.t 2) 2, some (17, true)⟩,
    ⟨some 19, .ld false 1 (.t 18), some (17, true)⟩,
    ⟨some 20, .fad (.t 3) 2, some (17, true)⟩,
    ⟨some 21, .ld false 1 (.t 20), some (17, true)⟩,
    ⟨some 22, .eqb false (.t 19) (.t 21), some (17, true)⟩,
    ⟨some 23, .pick (.t 17) (.t 22) (.c (.v false (.bool false))), none⟩,
    ⟨some 24, .mv (.t 23), none⟩,
    ⟨some 25, .fad (.t 2) 3, some (24, true)⟩,
    ⟨some 26, .ld true 3 (.t 25), some (24, true)⟩,
    ⟨some 27, .fad (.t 3) 3, some (24, true)⟩,
    ⟨some 28, .ld true 3 (.t 27), some (24, true)⟩,
    ⟨some 29, .eqs false [0, 0, 2] (.t 26) (.t 28), some (24, true)⟩,
    ⟨some 30, .pick (.t 24) (.t 29) (.c (.v false (.bool false))), none⟩,
    ⟨some 4, .mv (.t 30), none⟩] none)
  (.ret))

def pf49 : PF := ⟨[.s 4], [], pb49⟩

-- loop.example/g00496/impl.SameRow
def pb50 : PC :=
.seq (.reg [2, 3] [] [
   ⟨some 2, .box 2 (.t 0), none⟩,
   ⟨some 3, .box 2 (.t 1), none⟩,
   ⟨some 4, .mv (.c (.v false (.bool false))), none⟩] none)
 (.seq (.reg [4] [(15, 4)] [
    ⟨some 5, .fad (.t 2) 0, none⟩,
    ⟨some 6, .ld false 1 (.t 5), none⟩,
    ⟨some 7, .fad (.t 3) 0, none⟩,
    ⟨some 8, .ld false 1 (.t 7), none⟩,
    ⟨some 9, .bin .eql (.t 6) (.t 8), none⟩,
    ⟨some 10, .mv (.t 9), none⟩,
    ⟨some 11, .fad (.t 2) 1, some (10, true)⟩,
    ⟨some 12, .ld false 1 (.t 11), some (10, true)⟩,
    ⟨some 13, .fad (.t 3) 1, some (10, true)⟩,
    ⟨some 14, .ld false 1 (.t 13), some (10, true)⟩,
    ⟨some 15, .call 52 [] [(.t 12), (.t 14)], some (10, true)⟩,
    ⟨some 16, .pick (.t 10) (.t 15) (.c (.v false (.bool false))), none⟩,
    ⟨some 4, .mv (.t 16), none⟩] none)
  (.ret))

def pf50 : PF := ⟨[.s 4], [], pb50⟩

-- loop.example/g00496/impl.SameRows
def pl51_0 : PC :=
.seq (.reg [0, 1, 12, 13, 14] [] [
         ⟨some 14, .bin .lss (.t 13) (.t 12), none⟩] none)
       (.seq (.cond (.t 14) (.skip)
         (.exit 0))
        (.seq (.blk 1 (.seq (.reg [0, 1, 5, 12, 13] [] [
             ⟨some 15, .mv (.t 13), none⟩,
             ⟨some 5, .mv (.t 15), none⟩] none)
           (.seq (.reg [0, 1, 12, 13, 25] [] [
              ⟨some 16, .mv (.t 0), none⟩,
              ⟨some 17, .mv (.t 5), none⟩,
              ⟨some 18, .iad 2 (.t 16) (.t 17), none⟩,
              ⟨some 19, .ld true 2 (.t 18), none⟩,
              ⟨some 20, .mv (.t 1), none⟩,
              ⟨some 21, .mv (.t 5), none⟩,
              ⟨some 22, .iad 2 (.t 20) (.t 21), none⟩,
              ⟨some 23, .ld true 2 (.t 22), none⟩,
              ⟨some 24, .call 50 [] [(.t 19), (.t 23)], none⟩,
              ⟨some 25, .un .not (.t 24), none⟩] (some []))
            (.cond (.t 25) (.seq (.reg [4] [] [
                ⟨some 4, .mv (.c (.v false (.bool false))), none⟩] none)
              (.ret))
             (.skip)))))
         (.reg [0, 1, 12, 13] [] [
           ⟨some 26, .bin .add (.t 13) (.c (.v false (.int .i64 1))), none⟩,
           ⟨some 13, .mv (.t 26), none⟩] none)))

def pb51 : PC :=
.seq (.reg [0, 1] [] [
   ⟨some 4, .mv (.c (.v false (.bool false))), none⟩] none)
 (.seq (.seq (.reg [0, 1, 10] [] [
     ⟨some 6, .mv (.t 0), none⟩,
     ⟨some 7, .len (.t 6), none⟩,
     ⟨some 8, .mv (.t 1), none⟩,
     ⟨some 9, .len (.t 8), none⟩,
     ⟨some 10, .bin .neq (.t 7) (.t 9), none⟩] none)
   (.cond (.t 10) (.seq (.reg [4] [] [
       ⟨some 4, .mv (.c (.v false (.bool false))), none⟩] none)
     (.ret))
    (.skip)))
  (.seq (.seq (.reg [0, 1, 12, 13] [] [
      ⟨some 11, .mv (.t 0), none⟩,
      ⟨some 12, .len (.t 11), none⟩,
      ⟨some 13, .mv (.c (.v false (.int .i64 0))), none⟩] none)
    (.blk 0 (.loop pl51_0)))
   (.seq (.reg [4] [] [
      ⟨some 4, .mv (.c (.v false (.bool true))), none⟩] none)
    (.ret))))

def pf51 : PF := ⟨[.s 4], [], pb51⟩

-- loop.example/g00496/impl.SameVals
def pb52 : PC :=
.seq (.reg [0, 1] [] [
   ⟨some 4, .mv (.c (.v false (.bool false))), none⟩] none)
 (.seq (.reg [4] [(7, 4)] [
    ⟨some 5, .mv (.t 0), none⟩,
    ⟨some 6, .mv (.t 1), none⟩,
    ⟨some 7, .call 404 [] [(.t 5), (.t 6)], none⟩,
    ⟨some 4, .mv (.t 7), none⟩] none)
  (.ret))

def pf52 : PF := ⟨[.s 4], [], pb52⟩

-- loop.example/g00496/impl.sameInts
def pl84_0 : PC :=
.seq (.reg [0, 1, 12, 13, 14] [] [
         ⟨some 14, .bin .lss (.t 13) (.t 12), none⟩] none)
       (.seq (.cond (.t 14) (.skip)
         (.exit 0))
        (.seq (.blk 1 (.seq (.reg [0, 1, 5, 12, 13] [] [
             ⟨some 15, .mv (.t 13), none⟩,
             ⟨some 5, .mv (.t 15), none⟩] none)
           (.seq (.reg [0, 1, 12, 13, 24] [] [
              ⟨some 16, .mv (.t 0), none⟩,
              ⟨some 17, .mv (.t 5), none⟩,
              ⟨some 18, .iad 1 (.t 16) (.t 17), none⟩,
              ⟨some 19, .ld false 1 (.t 18), none⟩,
              ⟨some 20, .mv (.t 1), none⟩,
              ⟨some 21, .mv (.t 5), none⟩,
              ⟨some 22, .iad 1 (.t 20) (.t 21), none⟩,
              ⟨some 23, .ld false 1 (.t 22), none⟩,
              ⟨some 24, .bin .neq (.t 19) (.t 23), none⟩] (some []))
            (.cond (.t 24) (.seq (.reg [4] [] [
                ⟨some 4, .mv (.c (.v false (.bool false))), none⟩] none)
              (.ret))
             (.skip)))))
         (.reg [0, 1, 12, 13] [] [
           ⟨some 25, .bin .add (.t 13) (.c (.v false (.int .i64 1))), none⟩,
           ⟨some 13, .mv (.t 25), none⟩] none)))

def pb84 : PC :=
.seq (.reg [0, 1] [] [
   ⟨some 4, .mv (.c (.v false (.bool false))), none⟩] none)
 (.seq (.seq (.reg [0, 1, 10] [] [
     ⟨some 6, .mv (.t 0), none⟩,
     ⟨some 7, .len (.t 6), none⟩,
     ⟨some 8, .mv (.t 1), none⟩,
     ⟨some 9, .len (.t 8), none⟩,
     ⟨some 10, .bin .neq (.t 7) (.t 9), none⟩] none)
   (.cond (.t 10) (.seq (.reg [4] [] [
       ⟨some 4, .mv (.c (.v false (.bool false))), none⟩] none)
     (.ret))
    (.skip)))
  (.seq (.seq (.reg [0, 1, 12, 13] [] [
      ⟨some 11, .mv (.t 0), none⟩,
      ⟨some 12, .len (.t 11), none⟩,
      ⟨some 13, .mv (.c (.v false (.int .i64 0))), none⟩] none)
    (.blk 0 (.loop pl84_0)))
   (.seq (.reg [4] [] [
      ⟨some 4, .mv (.c (.v false (.bool true))), none⟩] none)
    (.ret))))

def pf84 : PF := ⟨[.s 4], [], pb84⟩

-- loop.example/g00496/impl.samePred
def pl85_0 : PC :=
.seq (.reg [2, 3, 43, 44, 45] [] [
         ⟨some 45, .bin .lss (.t 44) (.t 43), none⟩] none)
       (.seq (.cond (.t 45) (.skip)
         (.exit 0))
        (.seq (.blk 1 (.seq (.reg [2, 3, 5, 43, 44] [] [
             ⟨some 46, .mv (.t 44), none⟩,
             ⟨some 5, .mv (.t 46), none⟩] none)
           (.seq (.reg [2, 3, 43, 44, 58] [] [
              ⟨some 47, .fad (.t 2) 6, none⟩,
              ⟨some 48, .ld false 1 (.t 47), none⟩,
              ⟨some 49, .mv (.t 5), none⟩,
              ⟨some 50, .iad 7 (.t 48) (.t 49), none⟩,
              ⟨some 51, .ld true 7 (.t 50), none⟩,
              ⟨some 52, .fad (.t 3) 6, none⟩,
              ⟨some 53, .ld false 1 (.t 52), none⟩,
              ⟨some 54, .mv (.t 5), none⟩,
              ⟨some 55, .iad 7 (.t 53) (.t 54), none⟩,
              ⟨some 56, .ld true 7 (.t 55), none⟩,
              ⟨some 57, .call 85 [] [(.t 51), (.t 56)], none⟩,
              ⟨some 58, .un .not (.t 57), none⟩] (some []))
            (.cond (.t 58) (.seq (.reg [4] [] [
                ⟨some 4, .mv (.c (.v false (.bool false))), none⟩] none)
              (.ret))
             (.skip)))))
         (.reg [2, 3, 43, 44] [] [
           ⟨some 59, .bin .add (.t 44) (.c (.v false (.int .i64 1))), none⟩,
           ⟨some 44, .mv (.t 59), none⟩] none)))

def pb85 : PC :=
.seq (.reg [2, 3] [] [
   ⟨some 2, .box 7 (.t 0), none⟩,
   ⟨some 3, .box 7 (.t 1), none⟩,
   ⟨some 4, .mv (.c (.v false (.bool false))), none⟩] none)
 (.seq (.seq (.reg [2, 3, 40] [] [
     ⟨some 6, .fad (.t 2) 0, none⟩,
     ⟨some 7, .ld false 1 (.t 6), none⟩,
     ⟨some 8, .fad (.t 3) 0, none⟩,
     ⟨some 9, .ld false 1 (.t 8), none⟩,
     ⟨some 10, .bin .neq (.t 7) (.t 9), none⟩,
     ⟨some 11, .mv (.t 10), none⟩,
     ⟨some 12, .fad (.t 2) 1, some (11, false)⟩,
     ⟨some 13, .ld false 1 (.t 12), some (11, false)⟩,
     ⟨some 14, .fad (.t 3) 1, some (11, false)⟩,
     ⟨some 15, .ld false 1 (.t 14), some (11, false)⟩,
     ⟨some 16, .bin .neq (.t 13) (.t 15), some (11, false)⟩,
     ⟨some 17, .pick (.t 11) (.c (.v false (.bool true))) (.t 16), none⟩,
     ⟨some 18, .mv (.t 17), none⟩,
     ⟨some 19, .fad (.t 2) 2, some (18, false)⟩,
     ⟨some 20, .ld false 1 (.t 19), some (18, false)⟩,
     ⟨some 21, .fad (.t 3) 2, some (18, false)⟩,
     ⟨some 22, .ld false 1 (.t 21), some (18, false)⟩,
     ⟨some 23, .bin .neq (.t 20) (.t 22), some (18, false)⟩,
     ⟨some 24, .pick (.t 18) (.c (.v false (.bool true))) (.t 23), none⟩,
     ⟨some 25, .mv (.t 24), none⟩,
     ⟨some 26, .fad (.t 2) 3, some (25, false)⟩,
     ⟨some 27, .ld true 3 (.t 26), some (25, false)⟩,
     ⟨some 28, .fad (.t 3) 3, some (25, false)⟩,
     ⟨some 29, .ld true 3 (.t 28), some (25, false)⟩,
     ⟨some 30, .eqs true [0, 0, 2] (.t 27) (.t 29), some (25, false)⟩,
     ⟨some 31, .pick (.t 25) (.c (.v false (.bool true))) (.t 30), none⟩,
     ⟨some 32, .mv (.t 31), none⟩,
     ⟨some 33, .fad (.t 2) 6, some (32, false)⟩,
     ⟨some 34, .ld false 1 (.t 33), some (32, false)⟩,
     ⟨some 35, .len (.t 34), some (32, false)⟩,
     ⟨some 36, .fad (.t 3) 6, some (32, false)⟩,
     ⟨some 37, .ld false 1 (.t 36), some (32, false)⟩,
     ⟨some 38, .len (.t 37), some (32, false)⟩,
     ⟨some 39, .bin .neq (.t 35) (.t 38), some (32, false)⟩,
     ⟨some 40, .pick (.t 32) (.c (.v false (.bool true))) (.t 39), none⟩] none)
   (.cond (.t 40) (.seq (.reg [4] [] [
       ⟨some 4, .mv (.c (.v false (.bool false))), none⟩] none)
     (.ret))
    (.skip)))
  (.seq (.seq (.reg [2, 3, 43, 44] [] [
      ⟨some 41, .fad (.t 2) 6, none⟩,
      ⟨some 42, .ld false 1 (.t 41), none⟩,
      ⟨some 43, .len (.t 42), none⟩,
      ⟨some 44, .mv (.c (.v false (.int .i64 0))), none⟩] none)
    (.blk 0 (.loop pl85_0)))
   (.seq (.reg [4] [] [
      ⟨some 4, .mv (.c (.v false (.bool true))), none⟩] none)
    (.ret))))

def pf85 : PF := ⟨[.s 4], [], pb85⟩

-- loop.example/g00496/impl.sameQuery
def pb86 : PC :=
.seq (.reg [2, 3] [] [
   ⟨some 2, .box 10 (.t 0), none⟩,
   ⟨some 3, .box 10 (.t 1), none⟩,
   ⟨some 4, .mv (.c (.v false (.bool false))), none⟩] none)
 (.seq (.reg [4, 29] [(15, 4)] [
    ⟨some 5, .fad (.t 2) 0, none⟩,
    ⟨some 6, .ld false 1 (.t 5), none⟩,
    ⟨some 7, .fad (.t 3) 0, none⟩,
    ⟨some 8, .ld false 1 (.t 7), none⟩,
    ⟨some 9, .bin .eql (.t 6) (.t 8), none⟩,
    ⟨some 10, .mv (.t 9), none⟩,
    ⟨some 11, .fad (.t 2) 1, some (10, true)⟩,
    ⟨some 12, .ld true 7 (.t 11), some (10, true)⟩,
    ⟨some 13, .fad (.t 3) 1, some (10, true)⟩,
    ⟨some 14, .ld true 7 (.t 13), some (10, true)⟩,
    ⟨some 15, .call 85 [] [(.t 12), (.t 14)], some (10, true)⟩,
    ⟨some 16, .pick (.t 10) (.t 15) (.c (.v false (.bool false))), none⟩,
    ⟨some 17, .mv (.t 16), none⟩,
    ⟨some 18, .fad (.t 2) 8, some (17, true)⟩,
    ⟨some 19, .ld false 1 (.t 18), some (17, true)⟩,
    ⟨some 20, .fad (.t 3) 8, some (17, true)⟩,
    ⟨some 21, .ld false 1 (.t 20), some (17, true)⟩,
    ⟨some 22, .bin .eql (.t 19) (.t 21), some (17, true)⟩,
    ⟨some 23, .pick (.t 17) (.t 22) (.c (.v false (.bool false))), none⟩,
    ⟨some 24, .mv (.t 23), none⟩,
    ⟨some 25, .fad (.t 2) 9, some (24, true)⟩,
    ⟨some 26, .ld false 1 (.t 25), some (24, true)⟩,
    ⟨some 27, .fad (.t 3) 9, some (24, true)⟩,
    ⟨some 28, .ld false 1 (.t 27), some (24, true)⟩,
    ⟨some 29, .call 84 [] [(.t 26), (.t 28)], some (24, true)⟩,
    ⟨some 30, .pick (.t 24) (.t 29) (.c (.v false (.bool false))), none⟩,
    ⟨some 4, .mv (.t 30), none⟩] none)
  (.ret))

def pf86 : PF := ⟨[.s 4], [], pb86⟩

-- loop.example/g00496/laws.FnExactSameDeed
def pb125 : PC :=
.seq (.reg [2, 3] [] [
   ⟨some 2, .box 25 (.t 0), none⟩,
   ⟨some 3, .box 25 (.t 1), none⟩,
   ⟨some 4, .mv (.c (.v false (.bool false))), none⟩] none)
 (.seq (.reg [2, 3, 5] [] [
    ⟨some 5, .mv (.c (.v false (.int .i64 1048576))), none⟩] none)
  (.seq (.reg [2, 3, 5] [(12, 5)] [
     ⟨some 10, .ld true 25 (.t 2), none⟩,
     ⟨some 11, .mv (.t 5), none⟩,
     ⟨some 12, .call 216 [] [(.t 10), (.t 11)], none⟩,
     ⟨some 5, .mv (.t 12), none⟩] none)
   (.seq (.seq (.reg [2, 3, 5, 14] [] [
       ⟨some 13, .mv (.t 5), none⟩,
       ⟨some 14, .bin .lss (.t 13) (.c (.v false (.int .i64 0))), none⟩] none)
     (.cond (.t 14) (.seq (.reg [4] [] [
         ⟨some 4, .mv (.c (.v false (.bool true))), none⟩] none)
       (.ret))
      (.skip)))
    (.seq (.reg [2, 3, 5] [(17, 5)] [
       ⟨some 15, .ld true 25 (.t 3), none⟩,
       ⟨some 16, .mv (.t 5), none⟩,
       ⟨some 17, .call 216 [] [(.t 15), (.t 16)], none⟩,
       ⟨some 5, .mv (.t 17), none⟩] none)
     (.seq (.seq (.reg [2, 3, 19] [] [
         ⟨some 18, .mv (.t 5), none⟩,
         ⟨some 19, .bin .lss (.t 18) (.c (.v false (.int .i64 0))), none⟩] none)
       (.cond (.t 19) (.seq (.reg [4] [] [
           ⟨some 4, .mv (.c (.v false (.bool true))), none⟩] none)
         (.ret))
        (.skip)))
      (.seq (.reg [2, 3, 6] [(24, 6)] [
         ⟨some 20, .ld true 25 (.t 2), none⟩,
         ⟨some 21, .call 241 [] [(.t 20)], none⟩,
         ⟨some 22, .ld true 25 (.t 3), none⟩,
         ⟨some 23, .call 241 [] [(.t 22)], none⟩,
         ⟨some 24, .call 327 [] [(.t 21), (.t 23)], none⟩,
         ⟨some 6, .mv (.t 24), none⟩] (some [(1, 2)]))
       (.seq (.reg [2, 3, 6, 7] [] [
          ⟨some 25, .ld true 25 (.t 2), none⟩,
          ⟨some 26, .call 241 [] [(.t 25)], none⟩,
          ⟨some 7, .alloc [(.v false (.int .i64 0)), (.v false (.int .i64 0)), (.nl 3), (.v false (.int .i64 0)), (.v false (.int .i64 0)), (.v false (.int .i64 0)), (.v false (.int .i64 0)), (.v false (.int .i64 0)), (.v false (.int .i64 0)), (.v false (.int .i64 0)), (.v false (.str ⟨#[]⟩)), (.nl 7), (.v false (.int .i64 0)), (.nl 1), (.nl 2), (.v false (.int .i64 0)), (.v false (.bool false)), (.v false (.int .i64 0)), (.v false (.int .i64 0)), (.v false (.str ⟨#[]⟩)), (.v false (.int .i64 0)), (.v false (.int .i64 0)), (.v false (.int .i64 0)), (.v false (.int .i64 0)), (.v false (.int .i64 0))], none⟩,
          ⟨none, .st 25 (.t 7) (.t 26), none⟩] none)
        (.seq (.reg [2, 3, 6, 7, 8] [] [
           ⟨some 27, .ld true 25 (.t 3), none⟩,
           ⟨some 28, .call 241 [] [(.t 27)], none⟩,
           ⟨some 8, .alloc [(.v false (.int .i64 0)), (.v false (.int .i64 0)), (.nl 3), (.v false (.int .i64 0)), (.v false (.int .i64 0)), (.v false (.int .i64 0)), (.v false (.int .i64 0)), (.v false (.int .i64 0)), (.v false (.int .i64 0)), (.v false (.int .i64 0)), (.v false (.str ⟨#[]⟩)), (.nl 7), (.v false (.int .i64 0)), (.nl 1), (.nl 2), (.v false (.int .i64 0)), (.v false (.bool false)), (.v false (.int .i64 0)), (.v false (.int .i64 0)), (.v false (.str ⟨#[]⟩)), (.v false (.int .i64 0)), (.v false (.int .i64 0)), (.v false (.int .i64 0)), (.v false (.int .i64 0)), (.v false (.int .i64 0))], none⟩,
           ⟨none, .st 25 (.t 8) (.t 28), none⟩] none)
         (.seq (.reg [2, 3, 6, 7, 8, 9] [(31, 9)] [
            ⟨some 29, .ld true 25 (.t 7), none⟩,
            ⟨some 30, .ld true 25 (.t 8), none⟩,
            ⟨some 31, .call 46 [] [(.t 29), (.t 30)], none⟩,
            ⟨some 9, .mv (.t 31), none⟩] none)
          (.seq (.seq (.reg [2, 3, 7, 8, 34] [] [
              ⟨some 32, .mv (.t 9), none⟩,
              ⟨some 33, .mv (.t 6), none⟩,
              ⟨some 34, .eqb true (.t 32) (.t 33), none⟩] none)
            (.cond (.t 34) (.seq (.reg [4] [] [
                ⟨some 4, .mv (.c (.v false (.bool false))), none⟩] none)
              (.ret))
             (.skip)))
           (.seq (.seq (.reg [3, 8, 39] [] [
               ⟨some 35, .ld true 25 (.t 7), none⟩,
               ⟨some 36, .ld true 25 (.t 2), none⟩,
               ⟨some 37, .call 241 [] [(.t 36)], none⟩,
               ⟨some 38, .call 149 [] [(.t 35), (.t 37)], none⟩,
               ⟨some 39, .un .not (.t 38), none⟩] (some [(0, 2)]))
             (.cond (.t 39) (.seq (.reg [4] [] [
                 ⟨some 4, .mv (.c (.v false (.bool false))), none⟩] none)
               (.ret))
              (.skip)))
            (.seq (.seq (.reg [44] [] [
                ⟨some 40, .ld true 25 (.t 8), none⟩,
                ⟨some 41, .ld true 25 (.t 3), none⟩,
                ⟨some 42, .call 241 [] [(.t 41)], none⟩,
                ⟨some 43, .call 149 [] [(.t 40), (.t 42)], none⟩,
                ⟨some 44, .un .not (.t 43), none⟩] (some [(0, 2)]))
              (.cond (.t 44) (.seq (.reg [4] [] [
                  ⟨some 4, .mv (.c (.v false (.bool false))), none⟩] none)
                (.ret))
               (.skip)))
             (.seq (.reg [4] [] [
                ⟨some 4, .mv (.c (.v false (.bool true))), none⟩] none)
              (.ret))))))))))))))

def pf125 : PF := ⟨[.s 4], [], pb125⟩

-- loop.example/g00496/laws.eqDeed
def pb149 : PC :=
.seq (.reg [2, 3] [] [
   ⟨some 2, .box 25 (.t 0), none⟩,
   ⟨some 3, .box 25 (.t 1), none⟩,
   ⟨some 4, .mv (.c (.v false (.bool false))), none⟩] none)
 (.seq (.seq (.reg [2, 3, 9] [] [
     ⟨some 5, .fad (.t 2) 0, none⟩,
     ⟨some 6, .ld false 1 (.t 5), none⟩,
     ⟨some 7, .fad (.t 3) 0, none⟩,
     ⟨some 8, .ld false 1 (.t 7), none⟩,
     ⟨some 9, .bin .neq (.t 6) (.t 8), none⟩] none)
   (.cond (.t 9) (.seq (.reg [4] [] [
       ⟨some 4, .mv (.c (.v false (.bool false))), none⟩] none)
     (.ret))
    (.skip)))
  (.seq (.seq (.reg [2, 3, 14] [] [
      ⟨some 10, .fad (.t 2) 1, none⟩,
      ⟨some 11, .ld false 1 (.t 10), none⟩,
      ⟨some 12, .fad (.t 3) 1, none⟩,
      ⟨some 13, .ld false 1 (.t 12), none⟩,
      ⟨some 14, .bin .neq (.t 11) (.t 13), none⟩] none)
    (.cond (.t 14) (.seq (.reg [4] [] [
        ⟨some 4, .mv (.c (.v false (.bool false))), none⟩] none)
      (.ret))
     (.skip)))
   (.seq (.seq (.reg [2, 3, 20] [] [
       ⟨some 15, .fad (.t 2) 2, none⟩,
       ⟨some 16, .ld false 1 (.t 15), none⟩,
       ⟨some 17, .fad (.t 3) 2, none⟩,
       ⟨some 18, .ld false 1 (.t 17), none⟩,
       ⟨some 19, .call 166 [] [(.t 16), (.t 18)], none⟩,
       ⟨some 20, .un .not (.t 19), none⟩] none)
     (.cond (.t 20) (.seq (.reg [4] [] [
         ⟨some 4, .mv (.c (.v false (.bool false))), none⟩] none)
       (.ret))
      (.skip)))
    (.seq (.seq (.reg [2, 3, 25] [] [
        ⟨some 21, .fad (.t 2) 3, none⟩,
        ⟨some 22, .ld false 1 (.t 21), none⟩,
        ⟨some 23, .fad (.t 3) 3, none⟩,
        ⟨some 24, .ld false 1 (.t 23), none⟩,
        ⟨some 25, .bin .neq (.t 22) (.t 24), none⟩] none)
      (.cond (.t 25) (.seq (.reg [4] [] [
          ⟨some 4, .mv (.c (.v false (.bool false))), none⟩] none)
        (.ret))
       (.skip)))
     (.seq (.seq (.reg [2, 3, 31] [] [
         ⟨some 26, .fad (.t 2) 4, none⟩,
         ⟨some 27, .ld true 10 (.t 26), none⟩,
         ⟨some 28, .fad (.t 3) 4, none⟩,
         ⟨some 29, .ld true 10 (.t 28), none⟩,
         ⟨some 30, .call 155 [] [(.t 27), (.t 29)], none⟩,
         ⟨some 31, .un .not (.t 30), none⟩] none)
       (.cond (.t 31) (.seq (.reg [4] [] [
           ⟨some 4, .mv (.c (.v false (.bool false))), none⟩] none)
         (.ret))
        (.skip)))
      (.seq (.seq (.reg [2, 3, 37] [] [
          ⟨some 32, .fad (.t 2) 14, none⟩,
          ⟨some 33, .ld true 6 (.t 32), none⟩,
          ⟨some 34, .fad (.t 3) 14, none⟩,
          ⟨some 35, .ld true 6 (.t 34), none⟩,
          ⟨some 36, .call 158 [] [(.t 33), (.t 35)], none⟩,
          ⟨some 37, .un .not (.t 36), none⟩] none)
        (.cond (.t 37) (.seq (.reg [4] [] [
            ⟨some 4, .mv (.c (.v false (.bool false))), none⟩] none)
          (.ret))
         (.skip)))
       (.seq (.seq (.reg [2, 3, 42] [] [
           ⟨some 38, .fad (.t 2) 20, none⟩,
           ⟨some 39, .ld false 1 (.t 38), none⟩,
           ⟨some 40, .fad (.t 3) 20, none⟩,
           ⟨some 41, .ld false 1 (.t 40), none⟩,
           ⟨some 42, .bin .neq (.t 39) (.t 41), none⟩] none)
         (.cond (.t 42) (.seq (.reg [4] [] [
             ⟨some 4, .mv (.c (.v false (.bool false))), none⟩] none)
           (.ret))
          (.skip)))
        (.seq (.seq (.reg [2, 3, 47] [] [
            ⟨some 43, .fad (.t 2) 21, none⟩,
            ⟨some 44, .ld false 1 (.t 43), none⟩,
            ⟨some 45, .fad (.t 3) 21, none⟩,
            ⟨some 46, .ld false 1 (.t 45), none⟩,
            ⟨some 47, .bin .neq (.t 44) (.t 46), none⟩] none)
          (.cond (.t 47) (.seq (.reg [4] [] [
              ⟨some 4, .mv (.c (.v false (.bool false))), none⟩] none)
            (.ret))
           (.skip)))
         (.seq (.seq (.reg [2, 3, 52] [] [
             ⟨some 48, .fad (.t 2) 22, none⟩,
             ⟨some 49, .ld false 1 (.t 48), none⟩,
             ⟨some 50, .fad (.t 3) 22, none⟩,
             ⟨some 51, .ld false 1 (.t 50), none⟩,
             ⟨some 52, .bin .neq (.t 49) (.t 51), none⟩] none)
           (.cond (.t 52) (.seq (.reg [4] [] [
               ⟨some 4, .mv (.c (.v false (.bool false))), none⟩] none)
             (.ret))
            (.skip)))
          (.seq (.seq (.reg [2, 3, 57] [] [
              ⟨some 53, .fad (.t 2) 23, none⟩,
              ⟨some 54, .ld false 1 (.t 53), none⟩,
              ⟨some 55, .fad (.t 3) 23, none⟩,
              ⟨some 56, .ld false 1 (.t 55), none⟩,
              ⟨some 57, .bin .neq (.t 54) (.t 56), none⟩] none)
            (.cond (.t 57) (.seq (.reg [4] [] [
                ⟨some 4, .mv (.c (.v false (.bool false))), none⟩] none)
              (.ret))
             (.skip)))
           (.seq (.seq (.reg [62] [] [
               ⟨some 58, .fad (.t 2) 24, none⟩,
               ⟨some 59, .ld false 1 (.t 58), none⟩,
               ⟨some 60, .fad (.t 3) 24, none⟩,
               ⟨some 61, .ld false 1 (.t 60), none⟩,
               ⟨some 62, .bin .neq (.t 59) (.t 61), none⟩] none)
             (.cond (.t 62) (.seq (.reg [4] [] [
                 ⟨some 4, .mv (.c (.v false (.bool false))), none⟩] none)
               (.ret))
              (.skip)))
            (.seq (.reg [4] [] [
               ⟨some 4, .mv (.c (.v false (.bool true))), none⟩] none)
             (.ret)))))))))))))

def pf149 : PF := ⟨[.s 4], [], pb149⟩

-- loop.example/g00496/laws.eqIntS
def pl152_0 : PC :=
.seq (.seq (.reg [0, 1, 5, 14] [] [
          ⟨some 11, .mv (.t 5), none⟩,
          ⟨some 12, .mv (.t 0), none⟩,
          ⟨some 13, .len (.t 12), none⟩,
          ⟨some 14, .bin .lss (.t 11) (.t 13), none⟩] none)
        (.cond (.t 14) (.skip)
         (.exit 0)))
       (.seq (.blk 1 (.seq (.reg [0, 1, 5, 25] [] [
            ⟨some 17, .mv (.t 0), none⟩,
            ⟨some 18, .mv (.t 5), none⟩,
            ⟨some 19, .iad 1 (.t 17) (.t 18), none⟩,
            ⟨some 20, .ld false 1 (.t 19), none⟩,
            ⟨some 21, .mv (.t 1), none⟩,
            ⟨some 22, .mv (.t 5), none⟩,
            ⟨some 23, .iad 1 (.t 21) (.t 22), none⟩,
            ⟨some 24, .ld false 1 (.t 23), none⟩,
            ⟨some 25, .bin .neq (.t 20) (.t 24), none⟩] (some []))
          (.cond (.t 25) (.seq (.reg [4] [] [
              ⟨some 4, .mv (.c (.v false (.bool false))), none⟩] none)
            (.ret))
           (.skip))))
        (.reg [0, 1, 5] [] [
          ⟨some 15, .mv (.t 5), none⟩,
          ⟨some 16, .bin .add (.t 15) (.c (.v false (.int .i64 1))), none⟩,
          ⟨some 5, .mv (.t 16), none⟩] none))

def pb152 : PC :=
.seq (.reg [0, 1] [] [
   ⟨some 4, .mv (.c (.v false (.bool false))), none⟩] none)
 (.seq (.seq (.reg [0, 1, 10] [] [
     ⟨some 6, .mv (.t 0), none⟩,
     ⟨some 7, .len (.t 6), none⟩,
     ⟨some 8, .mv (.t 1), none⟩,
     ⟨some 9, .len (.t 8), none⟩,
     ⟨some 10, .bin .neq (.t 7) (.t 9), none⟩] none)
   (.cond (.t 10) (.seq (.reg [4] [] [
       ⟨some 4, .mv (.c (.v false (.bool false))), none⟩] none)
     (.ret))
    (.skip)))
  (.seq (.seq (.reg [0, 1, 5] [] [
      ⟨some 5, .mv (.c (.v false (.int .i64 0))), none⟩] none)
    (.blk 0 (.loop pl152_0)))
   (.seq (.reg [4] [] [
      ⟨some 4, .mv (.c (.v false (.bool true))), none⟩] none)
    (.ret))))

def pf152 : PF := ⟨[.s 4], [], pb152⟩

-- loop.example/g00496/laws.eqPred
def pb153 : PC :=
.seq (.reg [2, 3] [] [
   ⟨some 2, .box 7 (.t 0), none⟩,
   ⟨some 3, .box 7 (.t 1), none⟩,
   ⟨some 4, .mv (.c (.v false (.bool false))), none⟩] none)
 (.seq (.seq (.reg [2, 3, 9] [] [
     ⟨some 5, .fad (.t 2) 0, none⟩,
     ⟨some 6, .ld false 1 (.t 5), none⟩,
     ⟨some 7, .fad (.t 3) 0, none⟩,
     ⟨some 8, .ld false 1 (.t 7), none⟩,
     ⟨some 9, .bin .neq (.t 6) (.t 8), none⟩] none)
   (.cond (.t 9) (.seq (.reg [4] [] [
       ⟨some 4, .mv (.c (.v false (.bool false))), none⟩] none)
     (.ret))
    (.skip)))
  (.seq (.seq (.reg [2, 3, 14] [] [
      ⟨some 10, .fad (.t 2) 1, none⟩,
      ⟨some 11, .ld false 1 (.t 10), none⟩,
      ⟨some 12, .fad (.t 3) 1, none⟩,
      ⟨some 13, .ld false 1 (.t 12), none⟩,
      ⟨some 14, .bin .neq (.t 11) (.t 13), none⟩] none)
    (.cond (.t 14) (.seq (.reg [4] [] [
        ⟨some 4, .mv (.c (.v false (.bool false))), none⟩] none)
      (.ret))
     (.skip)))
   (.seq (.seq (.reg [2, 3, 19] [] [
       ⟨some 15, .fad (.t 2) 2, none⟩,
       ⟨some 16, .ld false 1 (.t 15), none⟩,
       ⟨some 17, .fad (.t 3) 2, none⟩,
       ⟨some 18, .ld false 1 (.t 17), none⟩,
       ⟨some 19, .bin .neq (.t 16) (.t 18), none⟩] none)
     (.cond (.t 19) (.seq (.reg [4] [] [
         ⟨some 4, .mv (.c (.v false (.bool false))), none⟩] none)
       (.ret))
      (.skip)))
    (.seq (.seq (.reg [2, 3, 25] [] [
        ⟨some 20, .fad (.t 2) 3, none⟩,
        ⟨some 21, .ld true 3 (.t 20), none⟩,
        ⟨some 22, .fad (.t 3) 3, none⟩,
        ⟨some 23, .ld true 3 (.t 22), none⟩,
        ⟨some 24, .call 165 [] [(.t 21), (.t 23)], none⟩,
        ⟨some 25, .un .not (.t 24), none⟩] none)
      (.cond (.t 25) (.seq (.reg [4] [] [
          ⟨some 4, .mv (.c (.v false (.bool false))), none⟩] none)
        (.ret))
       (.skip)))
     (.seq (.seq (.reg [31] [] [
         ⟨some 26, .fad (.t 2) 6, none⟩,
         ⟨some 27, .ld false 1 (.t 26), none⟩,
         ⟨some 28, .fad (.t 3) 6, none⟩,
         ⟨some 29, .ld false 1 (.t 28), none⟩,
         ⟨some 30, .call 154 [] [(.t 27), (.t 29)], none⟩,
         ⟨some 31, .un .not (.t 30), none⟩] none)
       (.cond (.t 31) (.seq (.reg [4] [] [
           ⟨some 4, .mv (.c (.v false (.bool false))), none⟩] none)
         (.ret))
        (.skip)))
      (.seq (.reg [4] [] [
         ⟨some 4, .mv (.c (.v false (.bool true))), none⟩] none)
       (.ret)))))))

def pf153 : PF := ⟨[.s 4], [], pb153⟩

-- loop.example/g00496/laws.eqPredS
def pl154_0 : PC :=
.seq (.seq (.reg [0, 1, 5, 14] [] [
          ⟨some 11, .mv (.t 5), none⟩,
          ⟨some 12, .mv (.t 0), none⟩,
          ⟨some 13, .len (.t 12), none⟩,
          ⟨some 14, .bin .lss (.t 11) (.t 13), none⟩] none)
        (.cond (.t 14) (.skip)
         (.exit 0)))
       (.seq (.blk 1 (.seq (.reg [0, 1, 5, 26] [] [
            ⟨some 17, .mv (.t 0), none⟩,
            ⟨some 18, .mv (.t 5), none⟩,
            ⟨some 19, .iad 7 (.t 17) (.t 18), none⟩,
            ⟨some 20, .ld true 7 (.t 19), none⟩,
            ⟨some 21, .mv (.t 1), none⟩,
            ⟨some 22, .mv (.t 5), none⟩,
            ⟨some 23, .iad 7 (.t 21) (.t 22), none⟩,
            ⟨some 24, .ld true 7 (.t 23), none⟩,
            ⟨some 25, .call 153 [] [(.t 20), (.t 24)], none⟩,
            ⟨some 26, .un .not (.t 25), none⟩] (some []))
          (.cond (.t 26) (.seq (.reg [4] [] [
              ⟨some 4, .mv (.c (.v false (.bool false))), none⟩] none)
            (.ret))
           (.skip))))
        (.reg [0, 1, 5] [] [
          ⟨some 15, .mv (.t 5), none⟩,
          ⟨some 16, .bin .add (.t 15) (.c (.v false (.int .i64 1))), none⟩,
          ⟨some 5, .mv (.t 16), none⟩] none))

def pb154 : PC :=
.seq (.reg [0, 1] [] [
   ⟨some 4, .mv (.c (.v false (.bool false))), none⟩] none)
 (.seq (.seq (.reg [0, 1, 10] [] [
     ⟨some 6, .mv (.t 0), none⟩,
     ⟨some 7, .len (.t 6), none⟩,
     ⟨some 8, .mv (.t 1), none⟩,
     ⟨some 9, .len (.t 8), none⟩,
     ⟨some 10, .bin .neq (.t 7) (.t 9), none⟩] none)
   (.cond (.t 10) (.seq (.reg [4] [] [
       ⟨some 4, .mv (.c (.v false (.bool false))), none⟩] none)
     (.ret))
    (.skip)))
  (.seq (.seq (.reg [0, 1, 5] [] [
      ⟨some 5, .mv (.c (.v false (.int .i64 0))), none⟩] none)
    (.blk 0 (.loop pl154_0)))
   (.seq (.reg [4] [] [
      ⟨some 4, .mv (.c (.v false (.bool true))), none⟩] none)
    (.ret))))

def pf154 : PF := ⟨[.s 4], [], pb154⟩

-- loop.example/g00496/laws.eqQuery
def pb155 : PC :=
.seq (.reg [2, 3] [] [
   ⟨some 2, .box 10 (.t 0), none⟩,
   ⟨some 3, .box 10 (.t 1), none⟩,
   ⟨some 4, .mv (.c (.v false (.bool false))), none⟩] none)
 (.seq (.seq (.reg [2, 3, 9] [] [
     ⟨some 5, .fad (.t 2) 0, none⟩,
     ⟨some 6, .ld false 1 (.t 5), none⟩,
     ⟨some 7, .fad (.t 3) 0, none⟩,
     ⟨some 8, .ld false 1 (.t 7), none⟩,
     ⟨some 9, .bin .neq (.t 6) (.t 8), none⟩] none)
   (.cond (.t 9) (.seq (.reg [4] [] [
       ⟨some 4, .mv (.c (.v false (.bool false))), none⟩] none)
     (.ret))
    (.skip)))
  (.seq (.seq (.reg [2, 3, 15] [] [
      ⟨some 10, .fad (.t 2) 1, none⟩,
      ⟨some 11, .ld true 7 (.t 10), none⟩,
      ⟨some 12, .fad (.t 3) 1, none⟩,
      ⟨some 13, .ld true 7 (.t 12), none⟩,
      ⟨some 14, .call 153 [] [(.t 11), (.t 13)], none⟩,
      ⟨some 15, .un .not (.t 14), none⟩] none)
    (.cond (.t 15) (.seq (.reg [4] [] [
        ⟨some 4, .mv (.c (.v false (.bool false))), none⟩] none)
      (.ret))
     (.skip)))
   (.seq (.seq (.reg [2, 3, 20] [] [
       ⟨some 16, .fad (.t 2) 8, none⟩,
       ⟨some 17, .ld false 1 (.t 16), none⟩,
       ⟨some 18, .fad (.t 3) 8, none⟩,
       ⟨some 19, .ld false 1 (.t 18), none⟩,
       ⟨some 20, .bin .neq (.t 17) (.t 19), none⟩] none)
     (.cond (.t 20) (.seq (.reg [4] [] [
         ⟨some 4, .mv (.c (.v false (.bool false))), none⟩] none)
       (.ret))
      (.skip)))
    (.seq (.seq (.reg [26] [] [
        ⟨some 21, .fad (.t 2) 9, none⟩,
        ⟨some 22, .ld false 1 (.t 21), none⟩,
        ⟨some 23, .fad (.t 3) 9, none⟩,
        ⟨some 24, .ld false 1 (.t 23), none⟩,
        ⟨some 25, .call 152 [] [(.t 22), (.t 24)], none⟩,
        ⟨some 26, .un .not (.t 25), none⟩] none)
      (.cond (.t 26) (.seq (.reg [4] [] [
          ⟨some 4, .mv (.c (.v false (.bool false))), none⟩] none)
        (.ret))
       (.skip)))
     (.seq (.reg [4] [] [
        ⟨some 4, .mv (.c (.v false (.bool true))), none⟩] none)
      (.ret))))))

def pf155 : PF := ⟨[.s 4], [], pb155⟩

-- loop.example/g00496/laws.eqResult
def pb158 : PC :=
.seq (.reg [2, 3] [] [
   ⟨some 2, .box 6 (.t 0), none⟩,
   ⟨some 3, .box 6 (.t 1), none⟩,
   ⟨some 4, .mv (.c (.v false (.bool false))), none⟩] none)
 (.seq (.seq (.reg [2, 3, 10] [] [
     ⟨some 5, .fad (.t 2) 0, none⟩,
     ⟨some 6, .ld false 1 (.t 5), none⟩,
     ⟨some 7, .fad (.t 3) 0, none⟩,
     ⟨some 8, .ld false 1 (.t 7), none⟩,
     ⟨some 9, .call 160 [] [(.t 6), (.t 8)], none⟩,
     ⟨some 10, .un .not (.t 9), none⟩] none)
   (.cond (.t 10) (.seq (.reg [4] [] [
       ⟨some 4, .mv (.c (.v false (.bool false))), none⟩] none)
     (.ret))
    (.skip)))
  (.seq (.seq (.reg [2, 3, 15] [] [
      ⟨some 11, .fad (.t 2) 1, none⟩,
      ⟨some 12, .ld false 1 (.t 11), none⟩,
      ⟨some 13, .fad (.t 3) 1, none⟩,
      ⟨some 14, .ld false 1 (.t 13), none⟩,
      ⟨some 15, .bin .neq (.t 12) (.t 14), none⟩] none)
    (.cond (.t 15) (.seq (.reg [4] [] [
        ⟨some 4, .mv (.c (.v false (.bool false))), none⟩] none)
      (.ret))
     (.skip)))
   (.seq (.seq (.reg [2, 3, 20] [] [
       ⟨some 16, .fad (.t 2) 2, none⟩,
       ⟨some 17, .ld false 1 (.t 16), none⟩,
       ⟨some 18, .fad (.t 3) 2, none⟩,
       ⟨some 19, .ld false 1 (.t 18), none⟩,
       ⟨some 20, .eqb true (.t 17) (.t 19), none⟩] none)
     (.cond (.t 20) (.seq (.reg [4] [] [
         ⟨some 4, .mv (.c (.v false (.bool false))), none⟩] none)
       (.ret))
      (.skip)))
    (.seq (.seq (.reg [26] [] [
        ⟨some 21, .fad (.t 2) 3, none⟩,
        ⟨some 22, .ld true 3 (.t 21), none⟩,
        ⟨some 23, .fad (.t 3) 3, none⟩,
        ⟨some 24, .ld true 3 (.t 23), none⟩,
        ⟨some 25, .call 165 [] [(.t 22), (.t 24)], none⟩,
        ⟨some 26, .un .not (.t 25), none⟩] none)
      (.cond (.t 26) (.seq (.reg [4] [] [
          ⟨some 4, .mv (.c (.v false (.bool false))), none⟩] none)
        (.ret))
       (.skip)))
     (.seq (.reg [4] [] [
        ⟨some 4, .mv (.c (.v false (.bool true))), none⟩] none)
      (.ret))))))

def pf158 : PF := ⟨[.s 4], [], pb158⟩

-- loop.example/g00496/laws.eqRow
def pb159 : PC :=
.seq (.reg [2, 3] [] [
   ⟨some 2, .box 2 (.t 0), none⟩,
   ⟨some 3, .box 2 (.t 1), none⟩,
   ⟨some 4, .mv (.c (.v false (.bool false))), none⟩] none)
 (.seq (.seq (.reg [2, 3, 9] [] [
     ⟨some 5, .fad (.t 2) 0, none⟩,
     ⟨some 6, .ld false 1 (.t 5), none⟩,
     ⟨some 7, .fad (.t 3) 0, none⟩,
     ⟨some 8, .ld false 1 (.t 7), none⟩,
     ⟨some 9, .bin .neq (.t 6) (.t 8), none⟩] none)
   (.cond (.t 9) (.seq (.reg [4] [] [
       ⟨some 4, .mv (.c (.v false (.bool false))), none⟩] none)
     (.ret))
    (.skip)))
  (.seq (.seq (.reg [15] [] [
      ⟨some 10, .fad (.t 2) 1, none⟩,
      ⟨some 11, .ld false 1 (.t 10), none⟩,
      ⟨some 12, .fad (.t 3) 1, none⟩,
      ⟨some 13, .ld false 1 (.t 12), none⟩,
      ⟨some 14, .call 166 [] [(.t 11), (.t 13)], none⟩,
      ⟨some 15, .un .not (.t 14), none⟩] none)
    (.cond (.t 15) (.seq (.reg [4] [] [
        ⟨some 4, .mv (.c (.v false (.bool false))), none⟩] none)
      (.ret))
     (.skip)))
   (.seq (.reg [4] [] [
      ⟨some 4, .mv (.c (.v false (.bool true))), none⟩] none)
    (.ret))))

def pf159 : PF := ⟨[.s 4], [], pb159⟩

-- loop.example/g00496/laws.eqRowS
def pl160_0 : PC :=
.seq (.seq (.reg [0, 1, 5, 14] [] [
          ⟨some 11, .mv (.t 5), none⟩,
          ⟨some 12, .mv (.t 0), none⟩,
          ⟨some 13, .len (.t 12), none⟩,
          ⟨some 14, .bin .lss (.t 11) (.t 13), none⟩] none)
        (.cond (.t 14) (.skip)
         (.exit 0)))
       (.seq (.blk 1 (.seq (.reg [0, 1, 5, 26] [] [
            ⟨some 17, .mv (.t 0), none⟩,
            ⟨some 18, .mv (.t 5), none⟩,
            ⟨some 19, .iad 2 (.t 17) (.t 18), none⟩,
            ⟨some 20, .ld true 2 (.t 19), none⟩,
            ⟨some 21, .mv (.t 1), none⟩,
            ⟨some 22, .mv (.t 5), none⟩,
            ⟨some 23, .iad 2 (.t 21) (.t 22), none⟩,
            ⟨some 24, .ld true 2 (.t 23), none⟩,
            ⟨some 25, .call 159 [] [(.t 20), (.t 24)], none⟩,
            ⟨some 26, .un .not (.t 25), none⟩] (some []))
          (.cond (.t 26) (.seq (.reg [4] [] [
              ⟨some 4, .mv (.c (.v false (.bool false))), none⟩] none)
            (.ret))
           (.skip))))
        (.reg [0, 1, 5] [] [
          ⟨some 15, .mv (.t 5), none⟩,
          ⟨some 16, .bin .add (.t 15) (.c (.v false (.int .i64 1))), none⟩,
          ⟨some 5, .mv (.t 16), none⟩] none))

def pb160 : PC :=
.seq (.reg [0, 1] [] [
   ⟨some 4, .mv (.c (.v false (.bool false))), none⟩] none)
 (.seq (.seq (.reg [0, 1, 10] [] [
     ⟨some 6, .mv (.t 0), none⟩,
     ⟨some 7, .len (.t 6), none⟩,
     ⟨some 8, .mv (.t 1), none⟩,
     ⟨some 9, .len (.t 8), none⟩,
     ⟨some 10, .bin .neq (.t 7) (.t 9), none⟩] none)
   (.cond (.t 10) (.seq (.reg [4] [] [
       ⟨some 4, .mv (.c (.v false (.bool false))), none⟩] none)
     (.ret))
    (.skip)))
  (.seq (.seq (.reg [0, 1, 5] [] [
      ⟨some 5, .mv (.c (.v false (.int .i64 0))), none⟩] none)
    (.blk 0 (.loop pl160_0)))
   (.seq (.reg [4] [] [
      ⟨some 4, .mv (.c (.v false (.bool true))), none⟩] none)
    (.ret))))

def pf160 : PF := ⟨[.s 4], [], pb160⟩

-- loop.example/g00496/laws.eqVal
def pb165 : PC :=
.seq (.reg [2, 3] [] [
   ⟨some 2, .box 3 (.t 0), none⟩,
   ⟨some 3, .box 3 (.t 1), none⟩,
   ⟨some 4, .mv (.c (.v false (.bool false))), none⟩] none)
 (.seq (.seq (.reg [2, 3, 9] [] [
     ⟨some 5, .fad (.t 2) 0, none⟩,
     ⟨some 6, .ld false 1 (.t 5), none⟩,
     ⟨some 7, .fad (.t 3) 0, none⟩,
     ⟨some 8, .ld false 1 (.t 7), none⟩,
     ⟨some 9, .bin .neq (.t 6) (.t 8), none⟩] none)
   (.cond (.t 9) (.seq (.reg [4] [] [
       ⟨some 4, .mv (.c (.v false (.bool false))), none⟩] none)
     (.ret))
    (.skip)))
  (.seq (.seq (.reg [2, 3, 14] [] [
      ⟨some 10, .fad (.t 2) 1, none⟩,
      ⟨some 11, .ld false 1 (.t 10), none⟩,
      ⟨some 12, .fad (.t 3) 1, none⟩,
      ⟨some 13, .ld false 1 (.t 12), none⟩,
      ⟨some 14, .bin .neq (.t 11) (.t 13), none⟩] none)
    (.cond (.t 14) (.seq (.reg [4] [] [
        ⟨some 4, .mv (.c (.v false (.bool false))), none⟩] none)
      (.ret))
     (.skip)))
   (.seq (.seq (.reg [19] [] [
       ⟨some 15, .fad (.t 2) 2, none⟩,
       ⟨some 16, .ld false 1 (.t 15), none⟩,
       ⟨some 17, .fad (.t 3) 2, none⟩,
       ⟨some 18, .ld false 1 (.t 17), none⟩,
       ⟨some 19, .bin .neq (.t 16) (.t 18), none⟩] none)
     (.cond (.t 19) (.seq (.reg [4] [] [
         ⟨some 4, .mv (.c (.v false (.bool false))), none⟩] none)
       (.ret))
      (.skip)))
    (.seq (.reg [4] [] [
       ⟨some 4, .mv (.c (.v false (.bool true))), none⟩] none)
     (.ret)))))

def pf165 : PF := ⟨[.s 4], [], pb165⟩

-- loop.example/g00496/laws.eqValS
def pl166_0 : PC :=
.seq (.seq (.reg [0, 1, 5, 14] [] [
          ⟨some 11, .mv (.t 5), none⟩,
          ⟨some 12, .mv (.t 0), none⟩,
          ⟨some 13, .len (.t 12), none⟩,
          ⟨some 14, .bin .lss (.t 11) (.t 13), none⟩] none)
        (.cond (.t 14) (.skip)
         (.exit 0)))
       (.seq (.blk 1 (.seq (.reg [0, 1, 5, 26] [] [
            ⟨some 17, .mv (.t 0), none⟩,
            ⟨some 18, .mv (.t 5), none⟩,
            ⟨some 19, .iad 3 (.t 17) (.t 18), none⟩,
            ⟨some 20, .ld true 3 (.t 19), none⟩,
            ⟨some 21, .mv (.t 1), none⟩,
            ⟨some 22, .mv (.t 5), none⟩,
            ⟨some 23, .iad 3 (.t 21) (.t 22), none⟩,
            ⟨some 24, .ld true 3 (.t 23), none⟩,
            ⟨some 25, .call 165 [] [(.t 20), (.t 24)], none⟩,
            ⟨some 26, .un .not (.t 25), none⟩] (some []))
          (.cond (.t 26) (.seq (.reg [4] [] [
              ⟨some 4, .mv (.c (.v false (.bool false))), none⟩] none)
            (.ret))
           (.skip))))
        (.reg [0, 1, 5] [] [
          ⟨some 15, .mv (.t 5), none⟩,
          ⟨some 16, .bin .add (.t 15) (.c (.v false (.int .i64 1))), none⟩,
          ⟨some 5, .mv (.t 16), none⟩] none))

def pb166 : PC :=
.seq (.reg [0, 1] [] [
   ⟨some 4, .mv (.c (.v false (.bool false))), none⟩] none)
 (.seq (.seq (.reg [0, 1, 10] [] [
     ⟨some 6, .mv (.t 0), none⟩,
     ⟨some 7, .len (.t 6), none⟩,
     ⟨some 8, .mv (.t 1), none⟩,
     ⟨some 9, .len (.t 8), none⟩,
     ⟨some 10, .bin .neq (.t 7) (.t 9), none⟩] none)
   (.cond (.t 10) (.seq (.reg [4] [] [
       ⟨some 4, .mv (.c (.v false (.bool false))), none⟩] none)
     (.ret))
    (.skip)))
  (.seq (.seq (.reg [0, 1, 5] [] [
      ⟨some 5, .mv (.c (.v false (.int .i64 0))), none⟩] none)
    (.blk 0 (.loop pl166_0)))
   (.seq (.reg [4] [] [
      ⟨some 4, .mv (.c (.v false (.bool true))), none⟩] none)
    (.ret))))

def pf166 : PF := ⟨[.s 4], [], pb166⟩

-- loop.example/g00496/laws.szDeed
def pb216 : PC :=
.seq (.reg [1, 2] [] [
   ⟨some 2, .box 25 (.t 0), none⟩,
   ⟨some 4, .mv (.c (.v false (.int .i64 0))), none⟩] none)
 (.seq (.reg [1, 2] [(8, 1)] [
    ⟨some 5, .fad (.t 2) 2, none⟩,
    ⟨some 6, .ld false 1 (.t 5), none⟩,
    ⟨some 7, .mv (.t 1), none⟩,
    ⟨some 8, .call 232 [] [(.t 6), (.t 7)], none⟩,
    ⟨some 1, .mv (.t 8), none⟩] none)
  (.seq (.seq (.reg [1, 2, 10] [] [
      ⟨some 9, .mv (.t 1), none⟩,
      ⟨some 10, .bin .lss (.t 9) (.c (.v false (.int .i64 0))), none⟩] none)
    (.cond (.t 10) (.seq (.reg [4] [] [
        ⟨some 4, .mv (.c (.v false (.int .i64 (-1)))), none⟩] none)
      (.ret))
     (.skip)))
   (.seq (.reg [1, 2] [(14, 1)] [
      ⟨some 11, .fad (.t 2) 4, none⟩,
      ⟨some 12, .ld true 10 (.t 11), none⟩,
      ⟨some 13, .mv (.t 1), none⟩,
      ⟨some 14, .call 222 [] [(.t 12), (.t 13)], none⟩,
      ⟨some 1, .mv (.t 14), none⟩] none)
    (.seq (.seq (.reg [1, 2, 16] [] [
        ⟨some 15, .mv (.t 1), none⟩,
        ⟨some 16, .bin .lss (.t 15) (.c (.v false (.int .i64 0))), none⟩] none)
      (.cond (.t 16) (.seq (.reg [4] [] [
          ⟨some 4, .mv (.c (.v false (.int .i64 (-1)))), none⟩] none)
        (.ret))
       (.skip)))
     (.seq (.reg [1] [(20, 1)] [
        ⟨some 17, .fad (.t 2) 14, none⟩,
        ⟨some 18, .ld true 6 (.t 17), none⟩,
        ⟨some 19, .mv (.t 1), none⟩,
        ⟨some 20, .call 224 [] [(.t 18), (.t 19)], none⟩,
        ⟨some 1, .mv (.t 20), none⟩] none)
      (.seq (.seq (.reg [1, 22] [] [
          ⟨some 21, .mv (.t 1), none⟩,
          ⟨some 22, .bin .lss (.t 21) (.c (.v false (.int .i64 0))), none⟩] none)
        (.cond (.t 22) (.seq (.reg [4] [] [
            ⟨some 4, .mv (.c (.v false (.int .i64 (-1)))), none⟩] none)
          (.ret))
         (.skip)))
       (.seq (.reg [1, 4] [] [
          ⟨some 23, .mv (.t 1), none⟩,
          ⟨some 4, .mv (.t 23), none⟩] none)
        (.ret))))))))

def pf216 : PF := ⟨[.s 4], [], pb216⟩

-- loop.example/g00496/laws.szIntS
def pb219 : PC :=
.seq (.reg [0, 1] [] [
   ⟨some 4, .mv (.c (.v false (.int .i64 0))), none⟩] none)
 (.seq (.reg [1] [] [
    ⟨some 5, .mv (.t 1), none⟩,
    ⟨some 6, .mv (.t 0), none⟩,
    ⟨some 7, .len (.t 6), none⟩,
    ⟨some 8, .bin .sub (.t 5) (.t 7), none⟩,
    ⟨some 1, .mv (.t 8), none⟩] none)
  (.seq (.seq (.reg [1, 10] [] [
      ⟨some 9, .mv (.t 1), none⟩,
      ⟨some 10, .bin .lss (.t 9) (.c (.v false (.int .i64 0))), none⟩] none)
    (.cond (.t 10) (.seq (.reg [4] [] [
        ⟨some 4, .mv (.c (.v false (.int .i64 (-1)))), none⟩] none)
      (.ret))
     (.skip)))
   (.seq (.reg [4] [] [
      ⟨some 11, .mv (.t 1), none⟩,
      ⟨some 4, .mv (.t 11), none⟩] none)
    (.ret))))

def pf219 : PF := ⟨[.s 4], [], pb219⟩

-- loop.example/g00496/laws.szPred
def pb220 : PC :=
.seq (.reg [1, 2] [] [
   ⟨some 2, .box 7 (.t 0), none⟩,
   ⟨some 4, .mv (.c (.v false (.int .i64 0))), none⟩] none)
 (.seq (.reg [1, 2] [(8, 1)] [
    ⟨some 5, .fad (.t 2) 3, none⟩,
    ⟨some 6, .ld true 3 (.t 5), none⟩,
    ⟨some 7, .mv (.t 1), none⟩,
    ⟨some 8, .call 231 [] [(.t 6), (.t 7)], none⟩,
    ⟨some 1, .mv (.t 8), none⟩] none)
  (.seq (.seq (.reg [1, 2, 10] [] [
      ⟨some 9, .mv (.t 1), none⟩,
      ⟨some 10, .bin .lss (.t 9) (.c (.v false (.int .i64 0))), none⟩] none)
    (.cond (.t 10) (.seq (.reg [4] [] [
        ⟨some 4, .mv (.c (.v false (.int .i64 (-1)))), none⟩] none)
      (.ret))
     (.skip)))
   (.seq (.reg [1] [(14, 1)] [
      ⟨some 11, .fad (.t 2) 6, none⟩,
      ⟨some 12, .ld false 1 (.t 11), none⟩,
      ⟨some 13, .mv (.t 1), none⟩,
      ⟨some 14, .call 221 [] [(.t 12), (.t 13)], none⟩,
      ⟨some 1, .mv (.t 14), none⟩] none)
    (.seq (.seq (.reg [1, 16] [] [
        ⟨some 15, .mv (.t 1), none⟩,
        ⟨some 16, .bin .lss (.t 15) (.c (.v false (.int .i64 0))), none⟩] none)
      (.cond (.t 16) (.seq (.reg [4] [] [
          ⟨some 4, .mv (.c (.v false (.int .i64 (-1)))), none⟩] none)
        (.ret))
       (.skip)))
     (.seq (.reg [1, 4] [] [
        ⟨some 17, .mv (.t 1), none⟩,
        ⟨some 4, .mv (.t 17), none⟩] none)
      (.ret))))))

def pf220 : PF := ⟨[.s 4], [], pb220⟩

-- loop.example/g00496/laws.szPredS
def pl221_0 : PC :=
.seq (.seq (.reg [0, 1, 5, 15] [] [
           ⟨some 12, .mv (.t 5), none⟩,
           ⟨some 13, .mv (.t 0), none⟩,
           ⟨some 14, .len (.t 13), none⟩,
           ⟨some 15, .bin .lss (.t 12) (.t 14), none⟩] none)
         (.cond (.t 15) (.skip)
          (.exit 0)))
        (.seq (.blk 1 (.seq (.reg [0, 1, 5] [(23, 1)] [
             ⟨some 18, .mv (.t 0), none⟩,
             ⟨some 19, .mv (.t 5), none⟩,
             ⟨some 20, .iad 7 (.t 18) (.t 19), none⟩,
             ⟨some 21, .ld true 7 (.t 20), none⟩,
             ⟨some 22, .mv (.t 1), none⟩,
             ⟨some 23, .call 220 [] [(.t 21), (.t 22)], none⟩,
             ⟨some 1, .mv (.t 23), none⟩] none)
           (.seq (.reg [0, 1, 5, 25] [] [
              ⟨some 24, .mv (.t 1), none⟩,
              ⟨some 25, .bin .lss (.t 24) (.c (.v false (.int .i64 0))), none⟩] none)
            (.cond (.t 25) (.seq (.reg [4] [] [
                ⟨some 4, .mv (.c (.v false (.int .i64 (-1)))), none⟩] none)
              (.ret))
             (.skip)))))
         (.reg [0, 1, 5] [] [
           ⟨some 16, .mv (.t 5), none⟩,
           ⟨some 17, .bin .add (.t 16) (.c (.v false (.int .i64 1))), none⟩,
           ⟨some 5, .mv (.t 17), none⟩] none))

def pb221 : PC :=
.seq (.reg [0, 1] [] [
   ⟨some 4, .mv (.c (.v false (.int .i64 0))), none⟩] none)
 (.seq (.reg [0, 1] [] [
    ⟨some 6, .mv (.t 1), none⟩,
    ⟨some 7, .mv (.t 0), none⟩,
    ⟨some 8, .len (.t 7), none⟩,
    ⟨some 9, .bin .sub (.t 6) (.t 8), none⟩,
    ⟨some 1, .mv (.t 9), none⟩] none)
  (.seq (.seq (.reg [0, 1, 11] [] [
      ⟨some 10, .mv (.t 1), none⟩,
      ⟨some 11, .bin .lss (.t 10) (.c (.v false (.int .i64 0))), none⟩] none)
    (.cond (.t 11) (.seq (.reg [4] [] [
        ⟨some 4, .mv (.c (.v false (.int .i64 (-1)))), none⟩] none)
      (.ret))
     (.skip)))
   (.seq (.seq (.reg [0, 1, 5] [] [
       ⟨some 5, .mv (.c (.v false (.int .i64 0))), none⟩] none)
     (.blk 0 (.loop pl221_0)))
    (.seq (.reg [1, 4] [] [
       ⟨some 26, .mv (.t 1), none⟩,
       ⟨some 4, .mv (.t 26), none⟩] none)
     (.ret)))))

def pf221 : PF := ⟨[.s 4], [], pb221⟩

-- loop.example/g00496/laws.szQuery
def pb222 : PC :=
.seq (.reg [1, 2] [] [
   ⟨some 2, .box 10 (.t 0), none⟩,
   ⟨some 4, .mv (.c (.v false (.int .i64 0))), none⟩] none)
 (.seq (.reg [1, 2] [(8, 1)] [
    ⟨some 5, .fad (.t 2) 1, none⟩,
    ⟨some 6, .ld true 7 (.t 5), none⟩,
    ⟨some 7, .mv (.t 1), none⟩,
    ⟨some 8, .call 220 [] [(.t 6), (.t 7)], none⟩,
    ⟨some 1, .mv (.t 8), none⟩] none)
  (.seq (.seq (.reg [1, 2, 10] [] [
      ⟨some 9, .mv (.t 1), none⟩,
      ⟨some 10, .bin .lss (.t 9) (.c (.v false (.int .i64 0))), none⟩] none)
    (.cond (.t 10) (.seq (.reg [4] [] [
        ⟨some 4, .mv (.c (.v false (.int .i64 (-1)))), none⟩] none)
      (.ret))
     (.skip)))
   (.seq (.reg [1] [(14, 1)] [
      ⟨some 11, .fad (.t 2) 9, none⟩,
      ⟨some 12, .ld false 1 (.t 11), none⟩,
      ⟨some 13, .mv (.t 1), none⟩,
      ⟨some 14, .call 219 [] [(.t 12), (.t 13)], none⟩,
      ⟨some 1, .mv (.t 14), none⟩] none)
    (.seq (.seq (.reg [1, 16] [] [
        ⟨some 15, .mv (.t 1), none⟩,
        ⟨some 16, .bin .lss (.t 15) (.c (.v false (.int .i64 0))), none⟩] none)
      (.cond (.t 16) (.seq (.reg [4] [] [
          ⟨some 4, .mv (.c (.v false (.int .i64 (-1)))), none⟩] none)
        (.ret))
       (.skip)))
     (.seq (.reg [1, 4] [] [
        ⟨some 17, .mv (.t 1), none⟩,
        ⟨some 4, .mv (.t 17), none⟩] none)
      (.ret))))))

def pf222 : PF := ⟨[.s 4], [], pb222⟩

-- loop.example/g00496/laws.szResult
def pb224 : PC :=
.seq (.reg [1, 2] [] [
   ⟨some 2, .box 6 (.t 0), none⟩,
   ⟨some 4, .mv (.c (.v false (.int .i64 0))), none⟩] none)
 (.seq (.reg [1, 2] [(8, 1)] [
    ⟨some 5, .fad (.t 2) 0, none⟩,
    ⟨some 6, .ld false 1 (.t 5), none⟩,
    ⟨some 7, .mv (.t 1), none⟩,
    ⟨some 8, .call 226 [] [(.t 6), (.t 7)], none⟩,
    ⟨some 1, .mv (.t 8), none⟩] none)
  (.seq (.seq (.reg [1, 2, 10] [] [
      ⟨some 9, .mv (.t 1), none⟩,
      ⟨some 10, .bin .lss (.t 9) (.c (.v false (.int .i64 0))), none⟩] none)
    (.cond (.t 10) (.seq (.reg [4] [] [
        ⟨some 4, .mv (.c (.v false (.int .i64 (-1)))), none⟩] none)
      (.ret))
     (.skip)))
   (.seq (.reg [1] [(14, 1)] [
      ⟨some 11, .fad (.t 2) 3, none⟩,
      ⟨some 12, .ld true 3 (.t 11), none⟩,
      ⟨some 13, .mv (.t 1), none⟩,
      ⟨some 14, .call 231 [] [(.t 12), (.t 13)], none⟩,
      ⟨some 1, .mv (.t 14), none⟩] none)
    (.seq (.seq (.reg [1, 16] [] [
        ⟨some 15, .mv (.t 1), none⟩,
        ⟨some 16, .bin .lss (.t 15) (.c (.v false (.int .i64 0))), none⟩] none)
      (.cond (.t 16) (.seq (.reg [4] [] [
          ⟨some 4, .mv (.c (.v false (.int .i64 (-1)))), none⟩] none)
        (.ret))
       (.skip)))
     (.seq (.reg [1, 4] [] [
        ⟨some 17, .mv (.t 1), none⟩,
        ⟨some 4, .mv (.t 17), none⟩] none)
      (.ret))))))

def pf224 : PF := ⟨[.s 4], [], pb224⟩

-- loop.example/g00496/laws.szRow
def pb225 : PC :=
.seq (.reg [1, 2] [] [
   ⟨some 2, .box 2 (.t 0), none⟩,
   ⟨some 4, .mv (.c (.v false (.int .i64 0))), none⟩] none)
 (.seq (.reg [1] [(8, 1)] [
    ⟨some 5, .fad (.t 2) 1, none⟩,
    ⟨some 6, .ld false 1 (.t 5), none⟩,
    ⟨some 7, .mv (.t 1), none⟩,
    ⟨some 8, .call 232 [] [(.t 6), (.t 7)], none⟩,
    ⟨some 1, .mv (.t 8), none⟩] none)
  (.seq (.seq (.reg [1, 10] [] [
      ⟨some 9, .mv (.t 1), none⟩,
      ⟨some 10, .bin .lss (.t 9) (.c (.v false (.int .i64 0))), none⟩] none)
    (.cond (.t 10) (.seq (.reg [4] [] [
        ⟨some 4, .mv (.c (.v false (.int .i64 (-1)))), none⟩] none)
      (.ret))
     (.skip)))
   (.seq (.reg [1, 4] [] [
      ⟨some 11, .mv (.t 1), none⟩,
      ⟨some 4, .mv (.t 11), none⟩] none)
    (.ret))))

def pf225 : PF := ⟨[.s 4], [], pb225⟩

-- loop.example/g00496/laws.szRowS
def pl226_0 : PC :=
.seq (.seq (.reg [0, 1, 5, 15] [] [
           ⟨some 12, .mv (.t 5), none⟩,
           ⟨some 13, .mv (.t 0), none⟩,
           ⟨some 14, .len (.t 13), none⟩,
           ⟨some 15, .bin .lss (.t 12) (.t 14), none⟩] none)
         (.cond (.t 15) (.skip)
          (.exit 0)))
        (.seq (.blk 1 (.seq (.reg [0, 1, 5] [(23, 1)] [
             ⟨some 18, .mv (.t 0), none⟩,
             ⟨some 19, .mv (.t 5), none⟩,
             ⟨some 20, .iad 2 (.t 18) (.t 19), none⟩,
             ⟨some 21, .ld true 2 (.t 20), none⟩,
             ⟨some 22, .mv (.t 1), none⟩,
             ⟨some 23, .call 225 [] [(.t 21), (.t 22)], none⟩,
             ⟨some 1, .mv (.t 23), none⟩] none)
           (.seq (.reg [0, 1, 5, 25] [] [
              ⟨some 24, .mv (.t 1), none⟩,
              ⟨some 25, .bin .lss (.t 24) (.c (.v false (.int .i64 0))), none⟩] none)
            (.cond (.t 25) (.seq (.reg [4] [] [
                ⟨some 4, .mv (.c (.v false (.int .i64 (-1)))), none⟩] none)
              (.ret))
             (.skip)))))
         (.reg [0, 1, 5] [] [
           ⟨some 16, .mv (.t 5), none⟩,
           ⟨some 17, .bin .add (.t 16) (.c (.v false (.int .i64 1))), none⟩,
           ⟨some 5, .mv (.t 17), none⟩] none))

def pb226 : PC :=
.seq (.reg [0, 1] [] [
   ⟨some 4, .mv (.c (.v false (.int .i64 0))), none⟩] none)
 (.seq (.reg [0, 1] [] [
    ⟨some 6, .mv (.t 1), none⟩,
    ⟨some 7, .mv (.t 0), none⟩,
    ⟨some 8, .len (.t 7), none⟩,
    ⟨some 9, .bin .sub (.t 6) (.t 8), none⟩,
    ⟨some 1, .mv (.t 9), none⟩] none)
  (.seq (.seq (.reg [0, 1, 11] [] [
      ⟨some 10, .mv (.t 1), none⟩,
      ⟨some 11, .bin .lss (.t 10) (.c (.v false (.int .i64 0))), none⟩] none)
    (.cond (.t 11) (.seq (.reg [4] [] [
        ⟨some 4, .mv (.c (.v false (.int .i64 (-1)))), none⟩] none)
      (.ret))
     (.skip)))
   (.seq (.seq (.reg [0, 1, 5] [] [
       ⟨some 5, .mv (.c (.v false (.int .i64 0))), none⟩] none)
     (.blk 0 (.loop pl226_0)))
    (.seq (.reg [1, 4] [] [
       ⟨some 26, .mv (.t 1), none⟩,
       ⟨some 4, .mv (.t 26), none⟩] none)
     (.ret)))))

def pf226 : PF := ⟨[.s 4], [], pb226⟩

-- loop.example/g00496/laws.szVal
def pb231 : PC :=
.seq (.reg [1, 2] [] [
   ⟨some 2, .box 3 (.t 0), none⟩,
   ⟨some 4, .mv (.c (.v false (.int .i64 0))), none⟩] none)
 (.seq (.reg [1] [] [
    ⟨some 5, .mv (.t 1), none⟩,
    ⟨some 6, .fad (.t 2) 2, none⟩,
    ⟨some 7, .ld false 1 (.t 6), none⟩,
    ⟨some 8, .lens (.t 7), none⟩,
    ⟨some 9, .bin .sub (.t 5) (.t 8), none⟩,
    ⟨some 1, .mv (.t 9), none⟩] none)
  (.seq (.seq (.reg [1, 11] [] [
      ⟨some 10, .mv (.t 1), none⟩,
      ⟨some 11, .bin .lss (.t 10) (.c (.v false (.int .i64 0))), none⟩] none)
    (.cond (.t 11) (.seq (.reg [4] [] [
        ⟨some 4, .mv (.c (.v false (.int .i64 (-1)))), none⟩] none)
      (.ret))
     (.skip)))
   (.seq (.reg [4] [] [
      ⟨some 12, .mv (.t 1), none⟩,
      ⟨some 4, .mv (.t 12), none⟩] none)
    (.ret))))

def pf231 : PF := ⟨[.s 4], [], pb231⟩

-- loop.example/g00496/laws.szValS
def pl232_0 : PC :=
.seq (.seq (.reg [0, 1, 5, 15] [] [
           ⟨some 12, .mv (.t 5), none⟩,
           ⟨some 13, .mv (.t 0), none⟩,
           ⟨some 14, .len (.t 13), none⟩,
           ⟨some 15, .bin .lss (.t 12) (.t 14), none⟩] none)
         (.cond (.t 15) (.skip)
          (.exit 0)))
        (.seq (.blk 1 (.seq (.reg [0, 1, 5] [(23, 1)] [
             ⟨some 18, .mv (.t 0), none⟩,
             ⟨some 19, .mv (.t 5), none⟩,
             ⟨some 20, .iad 3 (.t 18) (.t 19), none⟩,
             ⟨some 21, .ld true 3 (.t 20), none⟩,
             ⟨some 22, .mv (.t 1), none⟩,
             ⟨some 23, .call 231 [] [(.t 21), (.t 22)], none⟩,
             ⟨some 1, .mv (.t 23), none⟩] none)
           (.seq (.reg [0, 1, 5, 25] [] [
              ⟨some 24, .mv (.t 1), none⟩,
              ⟨some 25, .bin .lss (.t 24) (.c (.v false (.int .i64 0))), none⟩] none)
            (.cond (.t 25) (.seq (.reg [4] [] [
                ⟨some 4, .mv (.c (.v false (.int .i64 (-1)))), none⟩] none)
              (.ret))
             (.skip)))))
         (.reg [0, 1, 5] [] [
           ⟨some 16, .mv (.t 5), none⟩,
           ⟨some 17, .bin .add (.t 16) (.c (.v false (.int .i64 1))), none⟩,
           ⟨some 5, .mv (.t 17), none⟩] none))

def pb232 : PC :=
.seq (.reg [0, 1] [] [
   ⟨some 4, .mv (.c (.v false (.int .i64 0))), none⟩] none)
 (.seq (.reg [0, 1] [] [
    ⟨some 6, .mv (.t 1), none⟩,
    ⟨some 7, .mv (.t 0), none⟩,
    ⟨some 8, .len (.t 7), none⟩,
    ⟨some 9, .bin .sub (.t 6) (.t 8), none⟩,
    ⟨some 1, .mv (.t 9), none⟩] none)
  (.seq (.seq (.reg [0, 1, 11] [] [
      ⟨some 10, .mv (.t 1), none⟩,
      ⟨some 11, .bin .lss (.t 10) (.c (.v false (.int .i64 0))), none⟩] none)
    (.cond (.t 11) (.seq (.reg [4] [] [
        ⟨some 4, .mv (.c (.v false (.int .i64 (-1)))), none⟩] none)
      (.ret))
     (.skip)))
   (.seq (.seq (.reg [0, 1, 5] [] [
       ⟨some 5, .mv (.c (.v false (.int .i64 0))), none⟩] none)
     (.blk 0 (.loop pl232_0)))
    (.seq (.reg [1, 4] [] [
       ⟨some 26, .mv (.t 1), none⟩,
       ⟨some 4, .mv (.t 26), none⟩] none)
     (.ret)))))

def pf232 : PF := ⟨[.s 4], [], pb232⟩

-- loop.example/g00496/laws.toDeed
def pb241 : PC :=
.seq (.reg [1, 2] [] [
   ⟨some 1, .box 25 (.t 0), none⟩,
   ⟨some 2, .alloc [(.v false (.int .i64 0)), (.v false (.int .i64 0)), (.nl 3), (.v false (.int .i64 0)), (.v false (.int .i64 0)), (.v false (.int .i64 0)), (.v false (.int .i64 0)), (.v false (.int .i64 0)), (.v false (.int .i64 0)), (.v false (.int .i64 0)), (.v false (.str ⟨#[]⟩)), (.nl 7), (.v false (.int .i64 0)), (.nl 1), (.nl 2), (.v false (.int .i64 0)), (.v false (.bool false)), (.v false (.int .i64 0)), (.v false (.int .i64 0)), (.v false (.str ⟨#[]⟩)), (.v false (.int .i64 0)), (.v false (.int .i64 0)), (.v false (.int .i64 0)), (.v false (.int .i64 0)), (.v false (.int .i64 0))], none⟩] none)
 (.seq (.reg [1, 2, 3] [] [
    ⟨some 3, .alloc [(.v false (.int .i64 0)), (.v false (.int .i64 0)), (.nl 3), (.v false (.int .i64 0)), (.v false (.int .i64 0)), (.v false (.int .i64 0)), (.v false (.int .i64 0)), (.v false (.int .i64 0)), (.v false (.int .i64 0)), (.v false (.int .i64 0)), (.v false (.str ⟨#[]⟩)), (.nl 7), (.v false (.int .i64 0)), (.nl 1), (.nl 2), (.v false (.int .i64 0)), (.v false (.bool false)), (.v false (.int .i64 0)), (.v false (.int .i64 0)), (.v false (.str ⟨#[]⟩)), (.v false (.int .i64 0)), (.v false (.int .i64 0)), (.v false (.int .i64 0)), (.v false (.int .i64 0)), (.v false (.int .i64 0))], none⟩] none)
  (.seq (.reg [1, 2, 3] [] [
     ⟨some 4, .fad (.t 1) 0, none⟩,
     ⟨some 5, .ld false 1 (.t 4), none⟩,
     ⟨some 6, .fad (.t 3) 0, none⟩,
     ⟨none, .st 1 (.t 6) (.t 5), none⟩] none)
   (.seq (.reg [1, 2, 3] [] [
      ⟨some 7, .fad (.t 1) 1, none⟩,
      ⟨some 8, .ld false 1 (.t 7), none⟩,
      ⟨some 9, .fad (.t 3) 1, none⟩,
      ⟨none, .st 1 (.t 9) (.t 8), none⟩] none)
    (.seq (.reg [1, 2, 3] [] [
       ⟨some 10, .fad (.t 1) 2, none⟩,
       ⟨some 11, .ld false 1 (.t 10), none⟩,
       ⟨some 12, .call 258 [] [(.t 11)], none⟩,
       ⟨some 13, .fad (.t 3) 2, none⟩,
       ⟨none, .st 1 (.t 13) (.t 12), none⟩] none)
     (.seq (.reg [1, 2, 3] [] [
        ⟨some 14, .fad (.t 1) 3, none⟩,
        ⟨some 15, .ld false 1 (.t 14), none⟩,
        ⟨some 16, .fad (.t 3) 3, none⟩,
        ⟨none, .st 1 (.t 16) (.t 15), none⟩] none)
      (.seq (.reg [1, 2, 3] [] [
         ⟨some 17, .fad (.t 1) 4, none⟩,
         ⟨some 18, .ld true 10 (.t 17), none⟩,
         ⟨some 19, .call 247 [] [(.t 18)], none⟩,
         ⟨some 20, .fad (.t 3) 4, none⟩,
         ⟨none, .st 10 (.t 20) (.t 19), none⟩] none)
       (.seq (.reg [1, 2, 3] [] [
          ⟨some 21, .fad (.t 1) 14, none⟩,
          ⟨some 22, .ld true 6 (.t 21), none⟩,
          ⟨some 23, .call 250 [] [(.t 22)], none⟩,
          ⟨some 24, .fad (.t 3) 14, none⟩,
          ⟨none, .st 6 (.t 24) (.t 23), none⟩] none)
        (.seq (.reg [1, 2, 3] [] [
           ⟨some 25, .fad (.t 1) 20, none⟩,
           ⟨some 26, .ld false 1 (.t 25), none⟩,
           ⟨some 27, .fad (.t 3) 20, none⟩,
           ⟨none, .st 1 (.t 27) (.t 26), none⟩] none)
         (.seq (.reg [1, 2, 3] [] [
            ⟨some 28, .fad (.t 1) 21, none⟩,
            ⟨some 29, .ld false 1 (.t 28), none⟩,
            ⟨some 30, .fad (.t 3) 21, none⟩,
            ⟨none, .st 1 (.t 30) (.t 29), none⟩] none)
          (.seq (.reg [1, 2, 3] [] [
             ⟨some 31, .fad (.t 1) 22, none⟩,
             ⟨some 32, .ld false 1 (.t 31), none⟩,
             ⟨some 33, .fad (.t 3) 22, none⟩,
             ⟨none, .st 1 (.t 33) (.t 32), none⟩] none)
           (.seq (.reg [1, 2, 3] [] [
              ⟨some 34, .fad (.t 1) 23, none⟩,
              ⟨some 35, .ld false 1 (.t 34), none⟩,
              ⟨some 36, .fad (.t 3) 23, none⟩,
              ⟨none, .st 1 (.t 36) (.t 35), none⟩] none)
            (.seq (.reg [2, 3] [] [
               ⟨some 37, .fad (.t 1) 24, none⟩,
               ⟨some 38, .ld false 1 (.t 37), none⟩,
               ⟨some 39, .fad (.t 3) 24, none⟩,
               ⟨none, .st 1 (.t 39) (.t 38), none⟩] none)
             (.seq (.reg [2] [] [
                ⟨some 40, .ld true 25 (.t 3), none⟩,
                ⟨none, .st 25 (.t 2) (.t 40), none⟩] none)
              (.ret))))))))))))))

def pf241 : PF := ⟨[.b 2 25 true], [], pb241⟩

-- loop.example/g00496/laws.toIntS
def pl244_0 : PC :=
.seq (.seq (.reg [0, 3, 4, 11] [] [
          ⟨some 8, .mv (.t 4), none⟩,
          ⟨some 9, .mv (.t 0), none⟩,
          ⟨some 10, .len (.t 9), none⟩,
          ⟨some 11, .bin .lss (.t 8) (.t 10), none⟩] none)
        (.cond (.t 11) (.skip)
         (.exit 0)))
       (.seq (.blk 1 (.reg [0, 3, 4] [] [
           ⟨some 14, .mv (.t 3), none⟩,
           ⟨some 15, .mv (.t 4), none⟩,
           ⟨some 16, .mv (.t 0), none⟩,
           ⟨some 17, .mv (.t 4), none⟩,
           ⟨some 18, .iad 1 (.t 16) (.t 17), none⟩,
           ⟨some 19, .ld false 1 (.t 18), none⟩,
           ⟨some 20, .iad 1 (.t 14) (.t 15), none⟩,
           ⟨none, .st 1 (.t 20) (.t 19), none⟩] none))
        (.reg [0, 3, 4] [] [
          ⟨some 12, .mv (.t 4), none⟩,
          ⟨some 13, .bin .add (.t 12) (.c (.v false (.int .i64 1))), none⟩,
          ⟨some 4, .mv (.t 13), none⟩] none))

def pb244 : PC :=
.seq (.reg [0] [] [
   ⟨some 2, .mv (.c (.nl 1)), none⟩] none)
 (.seq (.reg [0, 3] [(7, 3)] [
    ⟨some 5, .mv (.t 0), none⟩,
    ⟨some 6, .len (.t 5), none⟩,
    ⟨some 7, .mks 1 8 [.int .i64 0] (.t 6), none⟩,
    ⟨some 3, .mv (.t 7), none⟩] none)
  (.seq (.seq (.reg [0, 3, 4] [] [
      ⟨some 4, .mv (.c (.v false (.int .i64 0))), none⟩] none)
    (.blk 0 (.loop pl244_0)))
   (.seq (.reg [2, 3] [] [
      ⟨some 21, .mv (.t 3), none⟩,
      ⟨some 2, .mv (.t 21), none⟩] none)
    (.ret))))

def pf244 : PF := ⟨[.s 2], [], pb244⟩

-- loop.example/g00496/laws.toPred
def pb245 : PC :=
.seq (.reg [1, 2] [] [
   ⟨some 1, .box 7 (.t 0), none⟩,
   ⟨some 2, .alloc [(.v false (.int .i64 0)), (.v false (.int .i64 0)), (.v false (.int .i64 0)), (.v false (.int .i64 0)), (.v false (.int .i64 0)), (.v false (.str ⟨#[]⟩)), (.nl 7)], none⟩] none)
 (.seq (.reg [1, 2, 3] [] [
    ⟨some 3, .alloc [(.v false (.int .i64 0)), (.v false (.int .i64 0)), (.v false (.int .i64 0)), (.v false (.int .i64 0)), (.v false (.int .i64 0)), (.v false (.str ⟨#[]⟩)), (.nl 7)], none⟩] none)
  (.seq (.reg [1, 2, 3] [] [
     ⟨some 4, .fad (.t 1) 0, none⟩,
     ⟨some 5, .ld false 1 (.t 4), none⟩,
     ⟨some 6, .fad (.t 3) 0, none⟩,
     ⟨none, .st 1 (.t 6) (.t 5), none⟩] none)
   (.seq (.reg [1, 2, 3] [] [
      ⟨some 7, .fad (.t 1) 1, none⟩,
      ⟨some 8, .ld false 1 (.t 7), none⟩,
      ⟨some 9, .fad (.t 3) 1, none⟩,
      ⟨none, .st 1 (.t 9) (.t 8), none⟩] none)
    (.seq (.reg [1, 2, 3] [] [
       ⟨some 10, .fad (.t 1) 2, none⟩,
       ⟨some 11, .ld false 1 (.t 10), none⟩,
       ⟨some 12, .fad (.t 3) 2, none⟩,
       ⟨none, .st 1 (.t 12) (.t 11), none⟩] none)
     (.seq (.reg [1, 2, 3] [] [
        ⟨some 13, .fad (.t 1) 3, none⟩,
        ⟨some 14, .ld true 3 (.t 13), none⟩,
        ⟨some 15, .call 257 [] [(.t 14)], none⟩,
        ⟨some 16, .fad (.t 3) 3, none⟩,
        ⟨none, .st 3 (.t 16) (.t 15), none⟩] none)
      (.seq (.reg [2, 3] [] [
         ⟨some 17, .fad (.t 1) 6, none⟩,
         ⟨some 18, .ld false 1 (.t 17), none⟩,
         ⟨some 19, .call 246 [] [(.t 18)], none⟩,
         ⟨some 20, .fad (.t 3) 6, none⟩,
         ⟨none, .st 1 (.t 20) (.t 19), none⟩] none)
       (.seq (.reg [2] [] [
          ⟨some 21, .ld true 7 (.t 3), none⟩,
          ⟨none, .st 7 (.t 2) (.t 21), none⟩] none)
        (.ret))))))))

def pf245 : PF := ⟨[.b 2 7 true], [], pb245⟩

-- loop.example/g00496/laws.toPredS
def pl246_0 : PC :=
.seq (.seq (.reg [0, 3, 4, 11] [] [
          ⟨some 8, .mv (.t 4), none⟩,
          ⟨some 9, .mv (.t 0), none⟩,
          ⟨some 10, .len (.t 9), none⟩,
          ⟨some 11, .bin .lss (.t 8) (.t 10), none⟩] none)
        (.cond (.t 11) (.skip)
         (.exit 0)))
       (.seq (.blk 1 (.reg [0, 3, 4] [] [
           ⟨some 14, .mv (.t 3), none⟩,
           ⟨some 15, .mv (.t 4), none⟩,
           ⟨some 16, .mv (.t 0), none⟩,
           ⟨some 17, .mv (.t 4), none⟩,
           ⟨some 18, .iad 7 (.t 16) (.t 17), none⟩,
           ⟨some 19, .ld true 7 (.t 18), none⟩,
           ⟨some 20, .call 245 [] [(.t 19)], none⟩,
           ⟨some 21, .iad 7 (.t 14) (.t 15), none⟩,
           ⟨none, .st 7 (.t 21) (.t 20), none⟩] none))
        (.reg [0, 3, 4] [] [
          ⟨some 12, .mv (.t 4), none⟩,
          ⟨some 13, .bin .add (.t 12) (.c (.v false (.int .i64 1))), none⟩,
          ⟨some 4, .mv (.t 13), none⟩] none))

def pb246 : PC :=
.seq (.reg [0] [] [
   ⟨some 2, .mv (.c (.nl 7)), none⟩] none)
 (.seq (.reg [0, 3] [(7, 3)] [
    ⟨some 5, .mv (.t 0), none⟩,
    ⟨some 6, .len (.t 5), none⟩,
    ⟨some 7, .mks 7 80 [.int .i64 0, .int .i64 0, .int .i64 0, .int .i64 0, .int .i64 0, .str ⟨#[]⟩, .sl 7 []] (.t 6), none⟩,
    ⟨some 3, .mv (.t 7), none⟩] none)
  (.seq (.seq (.reg [0, 3, 4] [] [
      ⟨some 4, .mv (.c (.v false (.int .i64 0))), none⟩] none)
    (.blk 0 (.loop pl246_0)))
   (.seq (.reg [2, 3] [] [
      ⟨some 22, .mv (.t 3), none⟩,
      ⟨some 2, .mv (.t 22), none⟩] none)
    (.ret))))

def pf246 : PF := ⟨[.s 2], [], pb246⟩

-- loop.example/g00496/laws.toQuery
def pb247 : PC :=
.seq (.reg [1, 2] [] [
   ⟨some 1, .box 10 (.t 0), none⟩,
   ⟨some 2, .alloc [(.v false (.int .i64 0)), (.v false (.int .i64 0)), (.v false (.int .i64 0)), (.v false (.int .i64 0)), (.v false (.int .i64 0)), (.v false (.int .i64 0)), (.v false (.str ⟨#[]⟩)), (.nl 7), (.v false (.int .i64 0)), (.nl 1)], none⟩] none)
 (.seq (.reg [1, 2, 3] [] [
    ⟨some 3, .alloc [(.v false (.int .i64 0)), (.v false (.int .i64 0)), (.v false (.int .i64 0)), (.v false (.int .i64 0)), (.v false (.int .i64 0)), (.v false (.int .i64 0)), (.v false (.str ⟨#[]⟩)), (.nl 7), (.v false (.int .i64 0)), (.nl 1)], none⟩] none)
  (.seq (.reg [1, 2, 3] [] [
     ⟨some 4, .fad (.t 1) 0, none⟩,
     ⟨some 5, .ld false 1 (.t 4), none⟩,
     ⟨some 6, .fad (.t 3) 0, none⟩,
     ⟨none, .st 1 (.t 6) (.t 5), none⟩] none)
   (.seq (.reg [1, 2, 3] [] [
      ⟨some 7, .fad (.t 1) 1, none⟩,
      ⟨some 8, .ld true 7 (.t 7), none⟩,
      ⟨some 9, .call 245 [] [(.t 8)], none⟩,
      ⟨some 10, .fad (.t 3) 1, none⟩,
      ⟨none, .st 7 (.t 10) (.t 9), none⟩] none)
    (.seq (.reg [1, 2, 3] [] [
       ⟨some 11, .fad (.t 1) 8, none⟩,
       ⟨some 12, .ld false 1 (.t 11), none⟩,
       ⟨some 13, .fad (.t 3) 8, none⟩,
       ⟨none, .st 1 (.t 13) (.t 12), none⟩] none)
     (.seq (.reg [2, 3] [] [
        ⟨some 14, .fad (.t 1) 9, none⟩,
        ⟨some 15, .ld false 1 (.t 14), none⟩,
        ⟨some 16, .call 244 [] [(.t 15)], none⟩,
        ⟨some 17, .fad (.t 3) 9, none⟩,
        ⟨none, .st 1 (.t 17) (.t 16), none⟩] none)
      (.seq (.reg [2] [] [
         ⟨some 18, .ld true 10 (.t 3), none⟩,
         ⟨none, .st 10 (.t 2) (.t 18), none⟩] none)
       (.ret)))))))

def pf247 : PF := ⟨[.b 2 10 true], [], pb247⟩

-- loop.example/g00496/laws.toResult
def pb250 : PC :=
.seq (.reg [1, 2] [] [
   ⟨some 1, .box 6 (.t 0), none⟩,
   ⟨some 2, .alloc [(.nl 2), (.v false (.int .i64 0)), (.v false (.bool false)), (.v false (.int .i64 0)), (.v false (.int .i64 0)), (.v false (.str ⟨#[]⟩))], none⟩] none)
 (.seq (.reg [1, 2, 3] [] [
    ⟨some 3, .alloc [(.nl 2), (.v false (.int .i64 0)), (.v false (.bool false)), (.v false (.int .i64 0)), (.v false (.int .i64 0)), (.v false (.str ⟨#[]⟩))], none⟩] none)
  (.seq (.reg [1, 2, 3] [] [
     ⟨some 4, .fad (.t 1) 0, none⟩,
     ⟨some 5, .ld false 1 (.t 4), none⟩,
     ⟨some 6, .call 252 [] [(.t 5)], none⟩,
     ⟨some 7, .fad (.t 3) 0, none⟩,
     ⟨none, .st 1 (.t 7) (.t 6), none⟩] none)
   (.seq (.reg [1, 2, 3] [] [
      ⟨some 8, .fad (.t 1) 1, none⟩,
      ⟨some 9, .ld false 1 (.t 8), none⟩,
      ⟨some 10, .fad (.t 3) 1, none⟩,
      ⟨none, .st 1 (.t 10) (.t 9), none⟩] none)
    (.seq (.reg [1, 2, 3] [] [
       ⟨some 11, .fad (.t 1) 2, none⟩,
       ⟨some 12, .ld false 1 (.t 11), none⟩,
       ⟨some 13, .fad (.t 3) 2, none⟩,
       ⟨none, .st 1 (.t 13) (.t 12), none⟩] none)
     (.seq (.reg [2, 3] [] [
        ⟨some 14, .fad (.t 1) 3, none⟩,
        ⟨some 15, .ld true 3 (.t 14), none⟩,
        ⟨some 16, .call 257 [] [(.t 15)], none⟩,
        ⟨some 17, .fad (.t 3) 3, none⟩,
        ⟨none, .st 3 (.t 17) (.t 16), none⟩] none)
      (.seq (.reg [2] [] [
         ⟨some 18, .ld true 6 (.t 3), none⟩,
         ⟨none, .st 6 (.t 2) (.t 18), none⟩] none)
       (.ret)))))))

def pf250 : PF := ⟨[.b 2 6 true], [], pb250⟩

-- loop.example/g00496/laws.toRow
def pb251 : PC :=
.seq (.reg [1, 2] [] [
   ⟨some 1, .box 2 (.t 0), none⟩,
   ⟨some 2, .alloc [(.v false (.int .i64 0)), (.nl 3)], none⟩] none)
 (.seq (.reg [1, 2, 3] [] [
    ⟨some 3, .alloc [(.v false (.int .i64 0)), (.nl 3)], none⟩] none)
  (.seq (.reg [1, 2, 3] [] [
     ⟨some 4, .fad (.t 1) 0, none⟩,
     ⟨some 5, .ld false 1 (.t 4), none⟩,
     ⟨some 6, .fad (.t 3) 0, none⟩,
     ⟨none, .st 1 (.t 6) (.t 5), none⟩] none)
   (.seq (.reg [2, 3] [] [
      ⟨some 7, .fad (.t 1) 1, none⟩,
      ⟨some 8, .ld false 1 (.t 7), none⟩,
      ⟨some 9, .call 258 [] [(.t 8)], none⟩,
      ⟨some 10, .fad (.t 3) 1, none⟩,
      ⟨none, .st 1 (.t 10) (.t 9), none⟩] none)
    (.seq (.reg [2] [] [
       ⟨some 11, .ld true 2 (.t 3), none⟩,
       ⟨none, .st 2 (.t 2) (.t 11), none⟩] none)
     (.ret)))))

def pf251 : PF := ⟨[.b 2 2 true], [], pb251⟩

-- loop.example/g00496/laws.toRowS
def pl252_0 : PC :=
.seq (.seq (.reg [0, 3, 4, 11] [] [
          ⟨some 8, .mv (.t 4), none⟩,
          ⟨some 9, .mv (.t 0), none⟩,
          ⟨some 10, .len (.t 9), none⟩,
          ⟨some 11, .bin .lss (.t 8) (.t 10), none⟩] none)
        (.cond (.t 11) (.skip)
         (.exit 0)))
       (.seq (.blk 1 (.reg [0, 3, 4] [] [
           ⟨some 14, .mv (.t 3), none⟩,
           ⟨some 15, .mv (.t 4), none⟩,
           ⟨some 16, .mv (.t 0), none⟩,
           ⟨some 17, .mv (.t 4), none⟩,
           ⟨some 18, .iad 2 (.t 16) (.t 17), none⟩,
           ⟨some 19, .ld true 2 (.t 18), none⟩,
           ⟨some 20, .call 251 [] [(.t 19)], none⟩,
           ⟨some 21, .iad 2 (.t 14) (.t 15), none⟩,
           ⟨none, .st 2 (.t 21) (.t 20), none⟩] none))
        (.reg [0, 3, 4] [] [
          ⟨some 12, .mv (.t 4), none⟩,
          ⟨some 13, .bin .add (.t 12) (.c (.v false (.int .i64 1))), none⟩,
          ⟨some 4, .mv (.t 13), none⟩] none))

def pb252 : PC :=
.seq (.reg [0] [] [
   ⟨some 2, .mv (.c (.nl 2)), none⟩] none)
 (.seq (.reg [0, 3] [(7, 3)] [
    ⟨some 5, .mv (.t 0), none⟩,
    ⟨some 6, .len (.t 5), none⟩,
    ⟨some 7, .mks 2 32 [.int .i64 0, .sl 3 []] (.t 6), none⟩,
    ⟨some 3, .mv (.t 7), none⟩] none)
  (.seq (.seq (.reg [0, 3, 4] [] [
      ⟨some 4, .mv (.c (.v false (.int .i64 0))), none⟩] none)
    (.blk 0 (.loop pl252_0)))
   (.seq (.reg [2, 3] [] [
      ⟨some 22, .mv (.t 3), none⟩,
      ⟨some 2, .mv (.t 22), none⟩] none)
    (.ret))))

def pf252 : PF := ⟨[.s 2], [], pb252⟩

-- loop.example/g00496/laws.toVal
def pb257 : PC :=
.seq (.reg [1, 2] [] [
   ⟨some 1, .box 3 (.t 0), none⟩,
   ⟨some 2, .alloc [(.v false (.int .i64 0)), (.v false (.int .i64 0)), (.v false (.str ⟨#[]⟩))], none⟩] none)
 (.seq (.reg [1, 2, 3] [] [
    ⟨some 3, .alloc [(.v false (.int .i64 0)), (.v false (.int .i64 0)), (.v false (.str ⟨#[]⟩))], none⟩] none)
  (.seq (.reg [1, 2, 3] [] [
     ⟨some 4, .fad (.t 1) 0, none⟩,
     ⟨some 5, .ld false 1 (.t 4), none⟩,
     ⟨some 6, .fad (.t 3) 0, none⟩,
     ⟨none, .st 1 (.t 6) (.t 5), none⟩] none)
   (.seq (.reg [1, 2, 3] [] [
      ⟨some 7, .fad (.t 1) 1, none⟩,
      ⟨some 8, .ld false 1 (.t 7), none⟩,
      ⟨some 9, .fad (.t 3) 1, none⟩,
      ⟨none, .st 1 (.t 9) (.t 8), none⟩] none)
    (.seq (.reg [2, 3] [] [
       ⟨some 10, .fad (.t 1) 2, none⟩,
       ⟨some 11, .ld false 1 (.t 10), none⟩,
       ⟨some 12, .fad (.t 3) 2, none⟩,
       ⟨none, .st 1 (.t 12) (.t 11), none⟩] none)
     (.seq (.reg [2] [] [
        ⟨some 13, .ld true 3 (.t 3), none⟩,
        ⟨none, .st 3 (.t 2) (.t 13), none⟩] none)
      (.ret))))))

def pf257 : PF := ⟨[.b 2 3 true], [], pb257⟩

-- loop.example/g00496/laws.toValS
def pl258_0 : PC :=
.seq (.seq (.reg [0, 3, 4, 11] [] [
          ⟨some 8, .mv (.t 4), none⟩,
          ⟨some 9, .mv (.t 0), none⟩,
          ⟨some 10, .len (.t 9), none⟩,
          ⟨some 11, .bin .lss (.t 8) (.t 10), none⟩] none)
        (.cond (.t 11) (.skip)
         (.exit 0)))
       (.seq (.blk 1 (.reg [0, 3, 4] [] [
           ⟨some 14, .mv (.t 3), none⟩,
           ⟨some 15, .mv (.t 4), none⟩,
           ⟨some 16, .mv (.t 0), none⟩,
           ⟨some 17, .mv (.t 4), none⟩,
           ⟨some 18, .iad 3 (.t 16) (.t 17), none⟩,
           ⟨some 19, .ld true 3 (.t 18), none⟩,
           ⟨some 20, .call 257 [] [(.t 19)], none⟩,
           ⟨some 21, .iad 3 (.t 14) (.t 15), none⟩,
           ⟨none, .st 3 (.t 21) (.t 20), none⟩] none))
        (.reg [0, 3, 4] [] [
          ⟨some 12, .mv (.t 4), none⟩,
          ⟨some 13, .bin .add (.t 12) (.c (.v false (.int .i64 1))), none⟩,
          ⟨some 4, .mv (.t 13), none⟩] none))

def pb258 : PC :=
.seq (.reg [0] [] [
   ⟨some 2, .mv (.c (.nl 3)), none⟩] none)
 (.seq (.reg [0, 3] [(7, 3)] [
    ⟨some 5, .mv (.t 0), none⟩,
    ⟨some 6, .len (.t 5), none⟩,
    ⟨some 7, .mks 3 32 [.int .i64 0, .int .i64 0, .str ⟨#[]⟩] (.t 6), none⟩,
    ⟨some 3, .mv (.t 7), none⟩] none)
  (.seq (.seq (.reg [0, 3, 4] [] [
      ⟨some 4, .mv (.c (.v false (.int .i64 0))), none⟩] none)
    (.blk 0 (.loop pl258_0)))
   (.seq (.reg [2, 3] [] [
      ⟨some 22, .mv (.t 3), none⟩,
      ⟨some 2, .mv (.t 22), none⟩] none)
    (.ret))))

def pf258 : PF := ⟨[.s 2], [], pb258⟩

-- loop.example/g00496/spec.SameDeed
def pb327 : PC :=
.seq (.reg [2, 3] [] [
   ⟨some 2, .box 25 (.t 0), none⟩,
   ⟨some 3, .box 25 (.t 1), none⟩,
   ⟨some 4, .mv (.c (.v false (.bool false))), none⟩] none)
 (.seq (.reg [4, 36, 43] [(22, 4)] [
    ⟨some 5, .fad (.t 2) 0, none⟩,
    ⟨some 6, .ld false 1 (.t 5), none⟩,
    ⟨some 7, .fad (.t 3) 0, none⟩,
    ⟨some 8, .ld false 1 (.t 7), none⟩,
    ⟨some 9, .bin .eql (.t 6) (.t 8), none⟩,
    ⟨some 10, .mv (.t 9), none⟩,
    ⟨some 11, .fad (.t 2) 1, some (10, true)⟩,
    ⟨some 12, .ld false 1 (.t 11), some (10, true)⟩,
    ⟨some 13, .fad (.t 3) 1, some (10, true)⟩,
    ⟨some 14, .ld false 1 (.t 13), some (10, true)⟩,
    ⟨some 15, .bin .eql (.t 12) (.t 14), some (10, true)⟩,
    ⟨some 16, .pick (.t 10) (.t 15) (.c (.v false (.bool false))), none⟩,
    ⟨some 17, .mv (.t 16), none⟩,
    ⟨some 18, .fad (.t 2) 2, some (17, true)⟩,
    ⟨some 19, .ld false 1 (.t 18), some (17, true)⟩,
    ⟨some 20, .fad (.t 3) 2, some (17, true)⟩,
    ⟨some 21, .ld false 1 (.t 20), some (17, true)⟩,
    ⟨some 22, .call 333 [] [(.t 19), (.t 21)], some (17, true)⟩,
    ⟨some 23, .pick (.t 17) (.t 22) (.c (.v false (.bool false))), none⟩,
    ⟨some 24, .mv (.t 23), none⟩,
    ⟨some 25, .fad (.t 2) 3, some (24, true)⟩,
    ⟨some 26, .ld false 1 (.t 25), some (24, true)⟩,
    ⟨some 27, .fad (.t 3) 3, some (24, true)⟩,
    ⟨some 28, .ld false 1 (.t 27), some (24, true)⟩,
    ⟨some 29, .bin .eql (.t 26) (.t 28), some (24, true)⟩,
    ⟨some 30, .pick (.t 24) (.t 29) (.c (.v false (.bool false))), none⟩,
    ⟨some 31, .mv (.t 30), none⟩,
    ⟨some 32, .fad (.t 2) 4, some (31, true)⟩,
    ⟨some 33, .ld true 10 (.t 32), some (31, true)⟩,
    ⟨some 34, .fad (.t 3) 4, some (31, true)⟩,
    ⟨some 35, .ld true 10 (.t 34), some (31, true)⟩,
    ⟨some 36, .call 392 [] [(.t 33), (.t 35)], some (31, true)⟩,
    ⟨some 37, .pick (.t 31) (.t 36) (.c (.v false (.bool false))), none⟩,
    ⟨some 38, .mv (.t 37), none⟩,
    ⟨some 39, .fad (.t 2) 14, some (38, true)⟩,
    ⟨some 40, .ld true 6 (.t 39), some (38, true)⟩,
    ⟨some 41, .fad (.t 3) 14, some (38, true)⟩,
    ⟨some 42, .ld true 6 (.t 41), some (38, true)⟩,
    ⟨some 43, .call 330 [] [(.t 40), (.t 42)], some (38, true)⟩,
    ⟨some 44, .pick (.t 38) (.t 43) (.c (.v false (.bool false))), none⟩,
    ⟨some 45, .mv (.t 44), none⟩,
    ⟨some 46, .fad (.t 2) 20, some (45, true)⟩,
    ⟨some 47, .ld false 1 (.t 46), some (45, true)⟩,
    ⟨some 48, .fad (.t 3) 20, some (45, true)⟩,
    ⟨some 49, .ld false 1 (.t 48), some (45, true)⟩,
    ⟨some 50, .bin .eql (.t 47) (.t 49), some (45, true)⟩,
    ⟨some 51, .pick (.t 45) (.t 50) (.c (.v false (.bool false))), none⟩,
    ⟨some 52, .mv (.t 51), none⟩,
    ⟨some 53, .fad (.t 2) 21, some (52, true)⟩,
    ⟨some 54, .ld false 1 (.t 53), some (52, true)⟩,
    ⟨some 55, .fad (.t 3) 21, some (52, true)⟩,
    ⟨some 56, .ld false 1 (.t 55), some (52, true)⟩,
    ⟨some 57, .bin .eql (.t 54) (.t 56), some (52, true)⟩,
    ⟨some 58, .pick (.t 52) (.t 57) (.c (.v false (.bool false))), none⟩,
    ⟨some 59, .mv (.t 58), none⟩,
    ⟨some 60, .fad (.t 2) 22, some (59, true)⟩,
    ⟨some 61, .ld false 1 (.t 60), some (59, true)⟩,
    ⟨some 62, .fad (.t 3) 22, some (59, true)⟩,
    ⟨some 63, .ld false 1 (.t 62), some (59, true)⟩,
    ⟨some 64, .bin .eql (.t 61) (.t 63), some (59, true)⟩,
    ⟨some 65, .pick (.t 59) (.t 64) (.c (.v false (.bool false))), none⟩,
    ⟨some 66, .mv (.t 65), none⟩,
    ⟨some 67, .fad (.t 2) 23, some (66, true)⟩,
    ⟨some 68, .ld false 1 (.t 67), some (66, true)⟩,
    ⟨some 69, .fad (.t 3) 23, some (66, true)⟩,
    ⟨some 70, .ld false 1 (.t 69), some (66, true)⟩,
    ⟨some 71, .bin .eql (.t 68) (.t 70), some (66, true)⟩,
    ⟨some 72, .pick (.t 66) (.t 71) (.c (.v false (.bool false))), none⟩,
    ⟨some 73, .mv (.t 72), none⟩,
    ⟨some 74, .fad (.t 2) 24, some (73, true)⟩,
    ⟨some 75, .ld false 1 (.t 74), some (73, true)⟩,
    ⟨some 76, .fad (.t 3) 24, some (73, true)⟩,
    ⟨some 77, .ld false 1 (.t 76), some (73, true)⟩,
    ⟨some 78, .bin .eql (.t 75) (.t 77), some (73, true)⟩,
    ⟨some 79, .pick (.t 73) (.t 78) (.c (.v false (.bool false))), none⟩,
    ⟨some 4, .mv (.t 79), none⟩] none)
  (.ret))

def pf327 : PF := ⟨[.s 4], [], pb327⟩

-- loop.example/g00496/spec.SameResult
def pb330 : PC :=
.seq (.reg [2, 3] [] [
   ⟨some 2, .box 6 (.t 0), none⟩,
   ⟨some 3, .box 6 (.t 1), none⟩,
   ⟨some 4, .mv (.c (.v false (.bool false))), none⟩] none)
 (.seq (.reg [4] [(9, 4)] [
    ⟨some 5, .fad (.t 2) 0, none⟩,
    ⟨some 6, .ld false 1 (.t 5), none⟩,
    ⟨some 7, .fad (.t 3) 0, none⟩,
    ⟨some 8, .ld false 1 (.t 7), none⟩,
    ⟨some 9, .call 332 [] [(.t 6), (.t 8)], none⟩,
    ⟨some 10, .mv (.t 9), none⟩,
    ⟨some 11, .fad (.t 2) 1, some (10, true)⟩,
    ⟨some 12, .ld false 1 (.t 11), some (10, true)⟩,
    ⟨some 13, .fad (.t 3) 1, some (10, true)⟩,
    ⟨some 14, .ld false 1 (.t 13), some (10, true)⟩,
    ⟨some 15, .bin .eql (.t 12) (.t 14), some (10, true)⟩,
    ⟨some 16, .pick (.t 10) (.t 15) (.c (.v false (.bool false))), none⟩,
    ⟨some 17, .mv (.t 16), none⟩,
    ⟨some 18, .fad (.t 2) 2, some (17, true)⟩,
    ⟨some 19, .ld false 1 (.t 18), some (17, true)⟩,
    ⟨some 20, .fad (.t 3) 2, some (17, true)⟩,
    ⟨some 21, .ld false 1 (.t 20), some (17, true)⟩,
    ⟨some 22, .eqb false (.t 19) (.t 21), some (17, true)⟩,
    ⟨some 23, .pick (.t 17) (.t 22) (.c (.v false (.bool false))), none⟩,
    ⟨some 24, .mv (.t 23), none⟩,
    ⟨some 25, .fad (.t 2) 3, some (24, true)⟩,
    ⟨some 26, .ld true 3 (.t 25), some (24, true)⟩,
    ⟨some 27, .fad (.t 3) 3, some (24, true)⟩,
    ⟨some 28, .ld true 3 (.t 27), some (24, true)⟩,
    ⟨some 29, .eqs false [0, 0, 2] (.t 26) (.t 28), some (24, true)⟩,
    ⟨some 30, .pick (.t 24) (.t 29) (.c (.v false (.bool false))), none⟩,
    ⟨some 4, .mv (.t 30), none⟩] none)
  (.ret))

def pf330 : PF := ⟨[.s 4], [], pb330⟩

-- loop.example/g00496/spec.SameRow
def pb331 : PC :=
.seq (.reg [2, 3] [] [
   ⟨some 2, .box 2 (.t 0), none⟩,
   ⟨some 3, .box 2 (.t 1), none⟩,
   ⟨some 4, .mv (.c (.v false (.bool false))), none⟩] none)
 (.seq (.reg [4] [(15, 4)] [
    ⟨some 5, .fad (.t 2) 0, none⟩,
    ⟨some 6, .ld false 1 (.t 5), none⟩,
    ⟨some 7, .fad (.t 3) 0, none⟩,
    ⟨some 8, .ld false 1 (.t 7), none⟩,
    ⟨some 9, .bin .eql (.t 6) (.t 8), none⟩,
    ⟨some 10, .mv (.t 9), none⟩,
    ⟨some 11, .fad (.t 2) 1, some (10, true)⟩,
    ⟨some 12, .ld false 1 (.t 11), some (10, true)⟩,
    ⟨some 13, .fad (.t 3) 1, some (10, true)⟩,
    ⟨some 14, .ld false 1 (.t 13), some (10, true)⟩,
    ⟨some 15, .call 333 [] [(.t 12), (.t 14)], some (10, true)⟩,
    ⟨some 16, .pick (.t 10) (.t 15) (.c (.v false (.bool false))), none⟩,
    ⟨some 4, .mv (.t 16), none⟩] none)
  (.ret))

def pf331 : PF := ⟨[.s 4], [], pb331⟩

-- loop.example/g00496/spec.SameRows
def pl332_0 : PC :=
.seq (.seq (.reg [0, 1, 5, 14] [] [
          ⟨some 11, .mv (.t 5), none⟩,
          ⟨some 12, .mv (.t 0), none⟩,
          ⟨some 13, .len (.t 12), none⟩,
          ⟨some 14, .bin .lss (.t 11) (.t 13), none⟩] none)
        (.cond (.t 14) (.skip)
         (.exit 0)))
       (.seq (.blk 1 (.seq (.reg [0, 1, 5, 26] [] [
            ⟨some 17, .mv (.t 0), none⟩,
            ⟨some 18, .mv (.t 5), none⟩,
            ⟨some 19, .iad 2 (.t 17) (.t 18), none⟩,
            ⟨some 20, .ld true 2 (.t 19), none⟩,
            ⟨some 21, .mv (.t 1), none⟩,
            ⟨some 22, .mv (.t 5), none⟩,
            ⟨some 23, .iad 2 (.t 21) (.t 22), none⟩,
            ⟨some 24, .ld true 2 (.t 23), none⟩,
            ⟨some 25, .call 331 [] [(.t 20), (.t 24)], none⟩,
            ⟨some 26, .un .not (.t 25), none⟩] (some []))
          (.cond (.t 26) (.seq (.reg [4] [] [
              ⟨some 4, .mv (.c (.v false (.bool false))), none⟩] none)
            (.ret))
           (.skip))))
        (.reg [0, 1, 5] [] [
          ⟨some 15, .mv (.t 5), none⟩,
          ⟨some 16, .bin .add (.t 15) (.c (.v false (.int .i64 1))), none⟩,
          ⟨some 5, .mv (.t 16), none⟩] none))

def pb332 : PC :=
.seq (.reg [0, 1] [] [
   ⟨some 4, .mv (.c (.v false (.bool false))), none⟩] none)
 (.seq (.seq (.reg [0, 1, 10] [] [
     ⟨some 6, .mv (.t 0), none⟩,
     ⟨some 7, .len (.t 6), none⟩,
     ⟨some 8, .mv (.t 1), none⟩,
     ⟨some 9, .len (.t 8), none⟩,
     ⟨some 10, .bin .neq (.t 7) (.t 9), none⟩] none)
   (.cond (.t 10) (.seq (.reg [4] [] [
       ⟨some 4, .mv (.c (.v false (.bool false))), none⟩] none)
     (.ret))
    (.skip)))
  (.seq (.seq (.reg [0, 1, 5] [] [
      ⟨some 5, .mv (.c (.v false (.int .i64 0))), none⟩] none)
    (.blk 0 (.loop pl332_0)))
   (.seq (.reg [4] [] [
      ⟨some 4, .mv (.c (.v false (.bool true))), none⟩] none)
    (.ret))))

def pf332 : PF := ⟨[.s 4], [], pb332⟩

-- loop.example/g00496/spec.SameVals
def pl333_0 : PC :=
.seq (.seq (.reg [0, 1, 5, 14] [] [
          ⟨some 11, .mv (.t 5), none⟩,
          ⟨some 12, .mv (.t 0), none⟩,
          ⟨some 13, .len (.t 12), none⟩,
          ⟨some 14, .bin .lss (.t 11) (.t 13), none⟩] none)
        (.cond (.t 14) (.skip)
         (.exit 0)))
       (.seq (.blk 1 (.seq (.reg [0, 1, 5, 25] [] [
            ⟨some 17, .mv (.t 0), none⟩,
            ⟨some 18, .mv (.t 5), none⟩,
            ⟨some 19, .iad 3 (.t 17) (.t 18), none⟩,
            ⟨some 20, .ld true 3 (.t 19), none⟩,
            ⟨some 21, .mv (.t 1), none⟩,
            ⟨some 22, .mv (.t 5), none⟩,
            ⟨some 23, .iad 3 (.t 21) (.t 22), none⟩,
            ⟨some 24, .ld true 3 (.t 23), none⟩,
            ⟨some 25, .eqs true [0, 0, 2] (.t 20) (.t 24), none⟩] (some []))
          (.cond (.t 25) (.seq (.reg [4] [] [
              ⟨some 4, .mv (.c (.v false (.bool false))), none⟩] none)
            (.ret))
           (.skip))))
        (.reg [0, 1, 5] [] [
          ⟨some 15, .mv (.t 5), none⟩,
          ⟨some 16, .bin .add (.t 15) (.c (.v false (.int .i64 1))), none⟩,
          ⟨some 5, .mv (.t 16), none⟩] none))

def pb333 : PC :=
.seq (.reg [0, 1] [] [
   ⟨some 4, .mv (.c (.v false (.bool false))), none⟩] none)
 (.seq (.seq (.reg [0, 1, 10] [] [
     ⟨some 6, .mv (.t 0), none⟩,
     ⟨some 7, .len (.t 6), none⟩,
     ⟨some 8, .mv (.t 1), none⟩,
     ⟨some 9, .len (.t 8), none⟩,
     ⟨some 10, .bin .neq (.t 7) (.t 9), none⟩] none)
   (.cond (.t 10) (.seq (.reg [4] [] [
       ⟨some 4, .mv (.c (.v false (.bool false))), none⟩] none)
     (.ret))
    (.skip)))
  (.seq (.seq (.reg [0, 1, 5] [] [
      ⟨some 5, .mv (.c (.v false (.int .i64 0))), none⟩] none)
    (.blk 0 (.loop pl333_0)))
   (.seq (.reg [4] [] [
      ⟨some 4, .mv (.c (.v false (.bool true))), none⟩] none)
    (.ret))))

def pf333 : PF := ⟨[.s 4], [], pb333⟩

-- loop.example/g00496/spec.l20SameInts
def pl390_0 : PC :=
.seq (.seq (.reg [0, 1, 5, 14] [] [
          ⟨some 11, .mv (.t 5), none⟩,
          ⟨some 12, .mv (.t 0), none⟩,
          ⟨some 13, .len (.t 12), none⟩,
          ⟨some 14, .bin .lss (.t 11) (.t 13), none⟩] none)
        (.cond (.t 14) (.skip)
         (.exit 0)))
       (.seq (.blk 1 (.seq (.reg [0, 1, 5, 25] [] [
            ⟨some 17, .mv (.t 0), none⟩,
            ⟨some 18, .mv (.t 5), none⟩,
            ⟨some 19, .iad 1 (.t 17) (.t 18), none⟩,
            ⟨some 20, .ld false 1 (.t 19), none⟩,
            ⟨some 21, .mv (.t 1), none⟩,
            ⟨some 22, .mv (.t 5), none⟩,
            ⟨some 23, .iad 1 (.t 21) (.t 22), none⟩,
            ⟨some 24, .ld false 1 (.t 23), none⟩,
            ⟨some 25, .bin .neq (.t 20) (.t 24), none⟩] (some []))
          (.cond (.t 25) (.seq (.reg [4] [] [
              ⟨some 4, .mv (.c (.v false (.bool false))), none⟩] none)
            (.ret))
           (.skip))))
        (.reg [0, 1, 5] [] [
          ⟨some 15, .mv (.t 5), none⟩,
          ⟨some 16, .bin .add (.t 15) (.c (.v false (.int .i64 1))), none⟩,
          ⟨some 5, .mv (.t 16), none⟩] none))

def pb390 : PC :=
.seq (.reg [0, 1] [] [
   ⟨some 4, .mv (.c (.v false (.bool false))), none⟩] none)
 (.seq (.seq (.reg [0, 1, 10] [] [
     ⟨some 6, .mv (.t 0), none⟩,
     ⟨some 7, .len (.t 6), none⟩,
     ⟨some 8, .mv (.t 1), none⟩,
     ⟨some 9, .len (.t 8), none⟩,
     ⟨some 10, .bin .neq (.t 7) (.t 9), none⟩] none)
   (.cond (.t 10) (.seq (.reg [4] [] [
       ⟨some 4, .mv (.c (.v false (.bool false))), none⟩] none)
     (.ret))
    (.skip)))
  (.seq (.seq (.reg [0, 1, 5] [] [
      ⟨some 5, .mv (.c (.v false (.int .i64 0))), none⟩] none)
    (.blk 0 (.loop pl390_0)))
   (.seq (.reg [4] [] [
      ⟨some 4, .mv (.c (.v false (.bool true))), none⟩] none)
    (.ret))))

def pf390 : PF := ⟨[.s 4], [], pb390⟩

-- loop.example/g00496/spec.l20SamePred
def pl391_0 : PC :=
.seq (.seq (.reg [2, 3, 5, 45] [] [
          ⟨some 41, .mv (.t 5), none⟩,
          ⟨some 42, .fad (.t 2) 6, none⟩,
          ⟨some 43, .ld false 1 (.t 42), none⟩,
          ⟨some 44, .len (.t 43), none⟩,
          ⟨some 45, .bin .lss (.t 41) (.t 44), none⟩] none)
        (.cond (.t 45) (.skip)
         (.exit 0)))
       (.seq (.blk 1 (.seq (.reg [2, 3, 5, 59] [] [
            ⟨some 48, .fad (.t 2) 6, none⟩,
            ⟨some 49, .ld false 1 (.t 48), none⟩,
            ⟨some 50, .mv (.t 5), none⟩,
            ⟨some 51, .iad 7 (.t 49) (.t 50), none⟩,
            ⟨some 52, .ld true 7 (.t 51), none⟩,
            ⟨some 53, .fad (.t 3) 6, none⟩,
            ⟨some 54, .ld false 1 (.t 53), none⟩,
            ⟨some 55, .mv (.t 5), none⟩,
            ⟨some 56, .iad 7 (.t 54) (.t 55), none⟩,
            ⟨some 57, .ld true 7 (.t 56), none⟩,
            ⟨some 58, .call 391 [] [(.t 52), (.t 57)], none⟩,
            ⟨some 59, .un .not (.t 58), none⟩] (some []))
          (.cond (.t 59) (.seq (.reg [4] [] [
              ⟨some 4, .mv (.c (.v false (.bool false))), none⟩] none)
            (.ret))
           (.skip))))
        (.reg [2, 3, 5] [] [
          ⟨some 46, .mv (.t 5), none⟩,
          ⟨some 47, .bin .add (.t 46) (.c (.v false (.int .i64 1))), none⟩,
          ⟨some 5, .mv (.t 47), none⟩] none))

def pb391 : PC :=
.seq (.reg [2, 3] [] [
   ⟨some 2, .box 7 (.t 0), none⟩,
   ⟨some 3, .box 7 (.t 1), none⟩,
   ⟨some 4, .mv (.c (.v false (.bool false))), none⟩] none)
 (.seq (.seq (.reg [2, 3, 40] [] [
     ⟨some 6, .fad (.t 2) 0, none⟩,
     ⟨some 7, .ld false 1 (.t 6), none⟩,
     ⟨some 8, .fad (.t 3) 0, none⟩,
     ⟨some 9, .ld false 1 (.t 8), none⟩,
     ⟨some 10, .bin .neq (.t 7) (.t 9), none⟩,
     ⟨some 11, .mv (.t 10), none⟩,
     ⟨some 12, .fad (.t 2) 1, some (11, false)⟩,
     ⟨some 13, .ld false 1 (.t 12), some (11, false)⟩,
     ⟨some 14, .fad (.t 3) 1, some (11, false)⟩,
     ⟨some 15, .ld false 1 (.t 14), some (11, false)⟩,
     ⟨some 16, .bin .neq (.t 13) (.t 15), some (11, false)⟩,
     ⟨some 17, .pick (.t 11) (.c (.v false (.bool true))) (.t 16), none⟩,
     ⟨some 18, .mv (.t 17), none⟩,
     ⟨some 19, .fad (.t 2) 2, some (18, false)⟩,
     ⟨some 20, .ld false 1 (.t 19), some (18, false)⟩,
     ⟨some 21, .fad (.t 3) 2, some (18, false)⟩,
     ⟨some 22, .ld false 1 (.t 21), some (18, false)⟩,
     ⟨some 23, .bin .neq (.t 20) (.t 22), some (18, false)⟩,
     ⟨some 24, .pick (.t 18) (.c (.v false (.bool true))) (.t 23), none⟩,
     ⟨some 25, .mv (.t 24), none⟩,
     ⟨some 26, .fad (.t 2) 3, some (25, false)⟩,
     ⟨some 27, .ld true 3 (.t 26), some (25, false)⟩,
     ⟨some 28, .fad (.t 3) 3, some (25, false)⟩,
     ⟨some 29, .ld true 3 (.t 28), some (25, false)⟩,
     ⟨some 30, .eqs true [0, 0, 2] (.t 27) (.t 29), some (25, false)⟩,
     ⟨some 31, .pick (.t 25) (.c (.v false (.bool true))) (.t 30), none⟩,
     ⟨some 32, .mv (.t 31), none⟩,
     ⟨some 33, .fad (.t 2) 6, some (32, false)⟩,
     ⟨some 34, .ld false 1 (.t 33), some (32, false)⟩,
     ⟨some 35, .len (.t 34), some (32, false)⟩,
     ⟨some 36, .fad (.t 3) 6, some (32, false)⟩,
     ⟨some 37, .ld false 1 (.t 36), some (32, false)⟩,
     ⟨some 38, .len (.t 37), some (32, false)⟩,
     ⟨some 39, .bin .neq (.t 35) (.t 38), some (32, false)⟩,
     ⟨some 40, .pick (.t 32) (.c (.v false (.bool true))) (.t 39), none⟩] none)
   (.cond (.t 40) (.seq (.reg [4] [] [
       ⟨some 4, .mv (.c (.v false (.bool false))), none⟩] none)
     (.ret))
    (.skip)))
  (.seq (.seq (.reg [2, 3, 5] [] [
      ⟨some 5, .mv (.c (.v false (.int .i64 0))), none⟩] none)
    (.blk 0 (.loop pl391_0)))
   (.seq (.reg [4] [] [
      ⟨some 4, .mv (.c (.v false (.bool true))), none⟩] none)
    (.ret))))

def pf391 : PF := ⟨[.s 4], [], pb391⟩

-- loop.example/g00496/spec.l20SameQuery
def pb392 : PC :=
.seq (.reg [2, 3] [] [
   ⟨some 2, .box 10 (.t 0), none⟩,
   ⟨some 3, .box 10 (.t 1), none⟩,
   ⟨some 4, .mv (.c (.v false (.bool false))), none⟩] none)
 (.seq (.reg [4, 29] [(22, 4)] [
    ⟨some 5, .fad (.t 2) 0, none⟩,
    ⟨some 6, .ld false 1 (.t 5), none⟩,
    ⟨some 7, .fad (.t 3) 0, none⟩,
    ⟨some 8, .ld false 1 (.t 7), none⟩,
    ⟨some 9, .bin .eql (.t 6) (.t 8), none⟩,
    ⟨some 10, .mv (.t 9), none⟩,
    ⟨some 11, .fad (.t 2) 8, some (10, true)⟩,
    ⟨some 12, .ld false 1 (.t 11), some (10, true)⟩,
    ⟨some 13, .fad (.t 3) 8, some (10, true)⟩,
    ⟨some 14, .ld false 1 (.t 13), some (10, true)⟩,
    ⟨some 15, .bin .eql (.t 12) (.t 14), some (10, true)⟩,
    ⟨some 16, .pick (.t 10) (.t 15) (.c (.v false (.bool false))), none⟩,
    ⟨some 17, .mv (.t 16), none⟩,
    ⟨some 18, .fad (.t 2) 9, some (17, true)⟩,
    ⟨some 19, .ld false 1 (.t 18), some (17, true)⟩,
    ⟨some 20, .fad (.t 3) 9, some (17, true)⟩,
    ⟨some 21, .ld false 1 (.t 20), some (17, true)⟩,
    ⟨some 22, .call 390 [] [(.t 19), (.t 21)], some (17, true)⟩,
    ⟨some 23, .pick (.t 17) (.t 22) (.c (.v false (.bool false))), none⟩,
    ⟨some 24, .mv (.t 23), none⟩,
    ⟨some 25, .fad (.t 2) 1, some (24, true)⟩,
    ⟨some 26, .ld true 7 (.t 25), some (24, true)⟩,
    ⟨some 27, .fad (.t 3) 1, some (24, true)⟩,
    ⟨some 28, .ld true 7 (.t 27), some (24, true)⟩,
    ⟨some 29, .call 391 [] [(.t 26), (.t 28)], some (24, true)⟩,
    ⟨some 30, .pick (.t 24) (.t 29) (.c (.v false (.bool false))), none⟩,
    ⟨some 4, .mv (.t 30), none⟩] none)
  (.ret))

def pf392 : PF := ⟨[.s 4], [], pb392⟩

-- slices.Equal[[]loop.example/g00496/impl.Val,loop.example/g00496/impl.Val]
def pl404_0 : PC :=
.seq (.reg [0, 1, 12, 13, 14] [] [
         ⟨some 14, .bin .lss (.t 13) (.t 12), none⟩] none)
       (.seq (.cond (.t 14) (.skip)
         (.exit 0))
        (.seq (.blk 1 (.seq (.reg [0, 1, 5, 12, 13] [] [
             ⟨some 15, .mv (.t 13), none⟩,
             ⟨some 5, .mv (.t 15), none⟩] none)
           (.seq (.reg [0, 1, 12, 13, 24] [] [
              ⟨some 16, .mv (.t 0), none⟩,
              ⟨some 17, .mv (.t 5), none⟩,
              ⟨some 18, .iad 3 (.t 16) (.t 17), none⟩,
              ⟨some 19, .ld true 3 (.t 18), none⟩,
              ⟨some 20, .mv (.t 1), none⟩,
              ⟨some 21, .mv (.t 5), none⟩,
              ⟨some 22, .iad 3 (.t 20) (.t 21), none⟩,
              ⟨some 23, .ld true 3 (.t 22), none⟩,
              ⟨some 24, .eqs true [0, 0, 2] (.t 19) (.t 23), none⟩] (some []))
            (.cond (.t 24) (.seq (.reg [4] [] [
                ⟨some 4, .mv (.c (.v false (.bool false))), none⟩] none)
              (.ret))
             (.skip)))))
         (.reg [0, 1, 12, 13] [] [
           ⟨some 25, .bin .add (.t 13) (.c (.v false (.int .i64 1))), none⟩,
           ⟨some 13, .mv (.t 25), none⟩] none)))

def pb404 : PC :=
.seq (.reg [0, 1] [] [
   ⟨some 4, .mv (.c (.v false (.bool false))), none⟩] none)
 (.seq (.seq (.reg [0, 1, 10] [] [
     ⟨some 6, .mv (.t 0), none⟩,
     ⟨some 7, .len (.t 6), none⟩,
     ⟨some 8, .mv (.t 1), none⟩,
     ⟨some 9, .len (.t 8), none⟩,
     ⟨some 10, .bin .neq (.t 7) (.t 9), none⟩] none)
   (.cond (.t 10) (.seq (.reg [4] [] [
       ⟨some 4, .mv (.c (.v false (.bool false))), none⟩] none)
     (.ret))
    (.skip)))
  (.seq (.seq (.reg [0, 1, 12, 13] [] [
      ⟨some 11, .mv (.t 0), none⟩,
      ⟨some 12, .len (.t 11), none⟩,
      ⟨some 13, .mv (.c (.v false (.int .i64 0))), none⟩] none)
    (.blk 0 (.loop pl404_0)))
   (.seq (.reg [4] [] [
      ⟨some 4, .mv (.c (.v false (.bool true))), none⟩] none)
    (.ret))))

def pf404 : PF := ⟨[.s 4], [], pb404⟩

end Go.Proofs.Ytbfmbddafpbcpaa.OM
