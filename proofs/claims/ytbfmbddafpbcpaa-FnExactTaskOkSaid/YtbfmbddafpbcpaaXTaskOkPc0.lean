/- The texts of the functions, as the own machine runs them. -/
import Derived.Test.YtbfmbddafpbcpaaOMDef
set_option linter.all false
namespace Go.Proofs.Ytbfmbddafpbcpaa.OM
set_option maxRecDepth 100000

-- loop.example/g00496/impl.TaskOk
def pl58_0 : PC :=
.seq (.reg [2, 59, 60, 61, 62] [] [
          ⟨some 62, .bin .lss (.t 61) (.t 60), none⟩] none)
        (.seq (.cond (.t 62) (.skip)
          (.exit 2))
         (.seq (.blk 3 (.seq (.reg [2, 8, 59, 60, 61] [] [
              ⟨some 63, .iad 5 (.t 59) (.t 61), none⟩,
              ⟨some 64, .ld true 5 (.t 63), none⟩,
              ⟨some 8, .alloc [(.v false (.int .i64 0)), (.v false (.int .i64 0)), (.v false (.int .i64 0)), (.v false (.int .i64 0)), (.v false (.int .i64 0))], none⟩,
              ⟨none, .st 5 (.t 8) (.t 64), none⟩] none)
            (.seq (.reg [2, 59, 60, 61, 72] [] [
               ⟨some 65, .ld true 5 (.t 8), none⟩,
               ⟨some 66, .call 82 [] [(.t 65)], none⟩,
               ⟨some 67, .un .not (.t 66), none⟩,
               ⟨some 68, .mv (.t 67), none⟩,
               ⟨some 69, .fad (.t 8) 3, some (68, false)⟩,
               ⟨some 70, .ld false 1 (.t 69), some (68, false)⟩,
               ⟨some 71, .bin .lss (.t 70) (.c (.v false (.int .i64 0))), some (68, false)⟩,
               ⟨some 72, .pick (.t 68) (.c (.v false (.bool true))) (.t 71), none⟩] none)
             (.cond (.t 72) (.seq (.reg [4] [] [
                 ⟨some 4, .mv (.c (.v false (.bool false))), none⟩] none)
               (.ret))
              (.skip)))))
          (.reg [2, 59, 60, 61] [] [
            ⟨some 73, .bin .add (.t 61) (.c (.v false (.int .i64 1))), none⟩,
            ⟨some 61, .mv (.t 73), none⟩] none)))

def pl58_1 : PC :=
.seq (.reg [2, 49, 50, 51, 52] [] [
         ⟨some 52, .bin .lss (.t 51) (.t 50), none⟩] none)
       (.seq (.cond (.t 52) (.skip)
         (.exit 0))
        (.seq (.blk 1 (.seq (.reg [2, 6, 49, 50, 51] [] [
             ⟨some 53, .iad 1 (.t 49) (.t 51), none⟩,
             ⟨some 54, .ld false 1 (.t 53), none⟩,
             ⟨some 6, .mv (.t 54), none⟩] none)
           (.seq (.reg [2, 49, 50, 51, 56] [] [
              ⟨some 55, .mv (.t 6), none⟩,
              ⟨some 56, .bin .lss (.t 55) (.c (.v false (.int .i64 0))), none⟩] none)
            (.cond (.t 56) (.seq (.reg [4] [] [
                ⟨some 4, .mv (.c (.v false (.bool false))), none⟩] none)
              (.ret))
             (.skip)))))
         (.reg [2, 49, 50, 51] [] [
           ⟨some 57, .bin .add (.t 51) (.c (.v false (.int .i64 1))), none⟩,
           ⟨some 51, .mv (.t 57), none⟩] none)))

def pb58 : PC :=
.seq (.reg [1, 2] [] [
   ⟨some 2, .box 25 (.t 0), none⟩,
   ⟨some 4, .mv (.c (.v false (.bool false))), none⟩] none)
 (.seq (.seq (.reg [2, 30] [] [
     ⟨some 9, .mv (.t 1), none⟩,
     ⟨some 10, .call 87 [] [(.t 9), (.c (.v false (.int .i64 0))), (.c (.v false (.int .i64 4)))], none⟩,
     ⟨some 11, .un .not (.t 10), none⟩,
     ⟨some 12, .mv (.t 11), none⟩,
     ⟨some 13, .mv (.t 1), some (12, false)⟩,
     ⟨some 14, .fad (.t 2) 0, some (12, false)⟩,
     ⟨some 15, .ld false 1 (.t 14), some (12, false)⟩,
     ⟨some 16, .call 81 [] [(.t 13), (.t 15)], some (12, false)⟩,
     ⟨some 17, .un .not (.t 16), some (12, false)⟩,
     ⟨some 18, .pick (.t 12) (.c (.v false (.bool true))) (.t 17), none⟩,
     ⟨some 19, .mv (.t 18), none⟩,
     ⟨some 20, .fad (.t 2) 1, some (19, false)⟩,
     ⟨some 21, .ld false 1 (.t 20), some (19, false)⟩,
     ⟨some 22, .call 87 [] [(.t 21), (.c (.v false (.int .i64 0))), (.c (.v false (.int .i64 9)))], some (19, false)⟩,
     ⟨some 23, .un .not (.t 22), some (19, false)⟩,
     ⟨some 24, .pick (.t 19) (.c (.v false (.bool true))) (.t 23), none⟩,
     ⟨some 25, .mv (.t 24), none⟩,
     ⟨some 26, .fad (.t 2) 17, some (25, false)⟩,
     ⟨some 27, .ld false 1 (.t 26), some (25, false)⟩,
     ⟨some 28, .len (.t 27), some (25, false)⟩,
     ⟨some 29, .bin .gtr (.t 28) (.c (.v false (.int .i64 8))), some (25, false)⟩,
     ⟨some 30, .pick (.t 25) (.c (.v false (.bool true))) (.t 29), none⟩] none)
   (.cond (.t 30) (.seq (.reg [4] [] [
       ⟨some 4, .mv (.c (.v false (.bool false))), none⟩] none)
     (.ret))
    (.skip)))
  (.seq (.seq (.reg [2, 49, 50, 51] [] [
      ⟨some 31, .fad (.t 2) 2, none⟩,
      ⟨some 32, .ld false 1 (.t 31), none⟩,
      ⟨some 33, .fad (.t 2) 4, none⟩,
      ⟨some 34, .ld false 1 (.t 33), none⟩,
      ⟨some 35, .fad (.t 2) 15, none⟩,
      ⟨some 36, .ld false 1 (.t 35), none⟩,
      ⟨some 37, .fad (.t 2) 16, none⟩,
      ⟨some 38, .ld false 1 (.t 37), none⟩,
      ⟨some 39, .fad (.t 2) 18, none⟩,
      ⟨some 40, .ld false 1 (.t 39), none⟩,
      ⟨some 41, .fad (.t 2) 19, none⟩,
      ⟨some 42, .ld false 1 (.t 41), none⟩,
      ⟨some 43, .fad (.t 2) 20, none⟩,
      ⟨some 44, .ld false 1 (.t 43), none⟩,
      ⟨some 45, .fad (.t 2) 21, none⟩,
      ⟨some 46, .ld false 1 (.t 45), none⟩,
      ⟨some 47, .fad (.t 2) 22, none⟩,
      ⟨some 48, .ld false 1 (.t 47), none⟩,
      ⟨some 49, .bsl 1 [.int .i64 0, .int .i64 0, .int .i64 0, .int .i64 0, .int .i64 0, .int .i64 0, .int .i64 0, .int .i64 0, .int .i64 0] 9 [(0, (.t 32)), (1, (.t 34)), (2, (.t 36)), (3, (.t 38)), (4, (.t 40)), (5, (.t 42)), (6, (.t 44)), (7, (.t 46)), (8, (.t 48))], none⟩,
      ⟨some 50, .len (.t 49), none⟩,
      ⟨some 51, .mv (.c (.v false (.int .i64 0))), none⟩] none)
    (.blk 0 (.loop pl58_1)))
   (.seq (.seq (.reg [2, 59, 60, 61] [] [
       ⟨some 58, .fad (.t 2) 17, none⟩,
       ⟨some 59, .ld false 1 (.t 58), none⟩,
       ⟨some 60, .len (.t 59), none⟩,
       ⟨some 61, .mv (.c (.v false (.int .i64 0))), none⟩] none)
     (.blk 2 (.loop pl58_0)))
    (.seq (.seq (.reg [2, 86] [] [
        ⟨some 74, .fad (.t 2) 4, none⟩,
        ⟨some 75, .ld false 1 (.t 74), none⟩,
        ⟨some 76, .bin .neq (.t 75) (.c (.v false (.int .i64 0))), none⟩,
        ⟨some 77, .mv (.t 76), none⟩,
        ⟨some 78, .fad (.t 2) 0, some (77, true)⟩,
        ⟨some 79, .ld false 1 (.t 78), some (77, true)⟩,
        ⟨some 80, .bin .neq (.t 79) (.c (.v false (.int .i64 1))), some (77, true)⟩,
        ⟨some 81, .pick (.t 77) (.t 80) (.c (.v false (.bool false))), none⟩,
        ⟨some 82, .mv (.t 81), none⟩,
        ⟨some 83, .fad (.t 2) 0, some (82, true)⟩,
        ⟨some 84, .ld false 1 (.t 83), some (82, true)⟩,
        ⟨some 85, .bin .neq (.t 84) (.c (.v false (.int .i64 2))), some (82, true)⟩,
        ⟨some 86, .pick (.t 82) (.t 85) (.c (.v false (.bool false))), none⟩] none)
      (.cond (.t 86) (.seq (.reg [4] [] [
          ⟨some 4, .mv (.c (.v false (.bool false))), none⟩] none)
        (.ret))
       (.skip)))
     (.seq (.reg [4] [(92, 4)] [
        ⟨some 87, .fad (.t 2) 0, none⟩,
        ⟨some 88, .ld false 1 (.t 87), none⟩,
        ⟨some 89, .bin .neq (.t 88) (.c (.v false (.int .i64 0))), none⟩,
        ⟨some 90, .mv (.t 89), none⟩,
        ⟨some 91, .ld true 25 (.t 2), some (90, false)⟩,
        ⟨some 92, .call 67 [] [(.t 91)], some (90, false)⟩,
        ⟨some 93, .pick (.t 90) (.c (.v false (.bool true))) (.t 92), none⟩,
        ⟨some 4, .mv (.t 93), none⟩] none)
      (.ret))))))

def pf58 : PF := ⟨[.s 4], [], pb58⟩

-- loop.example/g00496/impl.blank
def pb67 : PC :=
.seq (.reg [1] [] [
   ⟨some 1, .box 25 (.t 0), none⟩,
   ⟨some 2, .mv (.c (.v false (.bool false))), none⟩] none)
 (.seq (.reg [2] [(26, 2)] [
    ⟨some 3, .fad (.t 1) 1, none⟩,
    ⟨some 4, .ld false 1 (.t 3), none⟩,
    ⟨some 5, .bin .eql (.t 4) (.c (.v false (.int .i64 0))), none⟩,
    ⟨some 6, .mv (.t 5), none⟩,
    ⟨some 7, .fad (.t 1) 2, some (6, true)⟩,
    ⟨some 8, .ld false 1 (.t 7), some (6, true)⟩,
    ⟨some 9, .bin .eql (.t 8) (.c (.v false (.int .i64 0))), some (6, true)⟩,
    ⟨some 10, .pick (.t 6) (.t 9) (.c (.v false (.bool false))), none⟩,
    ⟨some 11, .mv (.t 10), none⟩,
    ⟨some 12, .fad (.t 1) 3, some (11, true)⟩,
    ⟨some 13, .ld false 1 (.t 12), some (11, true)⟩,
    ⟨some 14, .len (.t 13), some (11, true)⟩,
    ⟨some 15, .bin .eql (.t 14) (.c (.v false (.int .i64 0))), some (11, true)⟩,
    ⟨some 16, .pick (.t 11) (.t 15) (.c (.v false (.bool false))), none⟩,
    ⟨some 17, .mv (.t 16), none⟩,
    ⟨some 18, .fad (.t 1) 4, some (17, true)⟩,
    ⟨some 19, .ld false 1 (.t 18), some (17, true)⟩,
    ⟨some 20, .bin .eql (.t 19) (.c (.v false (.int .i64 0))), some (17, true)⟩,
    ⟨some 21, .pick (.t 17) (.t 20) (.c (.v false (.bool false))), none⟩,
    ⟨some 22, .mv (.t 21), none⟩,
    ⟨some 23, .fad (.t 1) 5, some (22, true)⟩,
    ⟨some 24, .ld true 10 (.t 23), some (22, true)⟩,
    ⟨some 25, .build [(.v false (.int .i64 0)), (.v false (.int .i64 0)), (.v false (.int .i64 0)), (.v false (.int .i64 0)), (.v false (.int .i64 0)), (.v false (.int .i64 0)), (.v false (.str ⟨#[]⟩)), (.nl 7), (.v false (.int .i64 0)), (.nl 1)] [], some (22, true)⟩,
    ⟨some 26, .call 86 [] [(.t 24), (.t 25)], some (22, true)⟩,
    ⟨some 27, .pick (.t 22) (.t 26) (.c (.v false (.bool false))), none⟩,
    ⟨some 28, .mv (.t 27), none⟩,
    ⟨some 29, .fad (.t 1) 15, some (28, true)⟩,
    ⟨some 30, .ld false 1 (.t 29), some (28, true)⟩,
    ⟨some 31, .bin .eql (.t 30) (.c (.v false (.int .i64 0))), some (28, true)⟩,
    ⟨some 32, .pick (.t 28) (.t 31) (.c (.v false (.bool false))), none⟩,
    ⟨some 33, .mv (.t 32), none⟩,
    ⟨some 34, .fad (.t 1) 16, some (33, true)⟩,
    ⟨some 35, .ld false 1 (.t 34), some (33, true)⟩,
    ⟨some 36, .bin .eql (.t 35) (.c (.v false (.int .i64 0))), some (33, true)⟩,
    ⟨some 37, .pick (.t 33) (.t 36) (.c (.v false (.bool false))), none⟩,
    ⟨some 38, .mv (.t 37), none⟩,
    ⟨some 39, .fad (.t 1) 17, some (38, true)⟩,
    ⟨some 40, .ld false 1 (.t 39), some (38, true)⟩,
    ⟨some 41, .len (.t 40), some (38, true)⟩,
    ⟨some 42, .bin .eql (.t 41) (.c (.v false (.int .i64 0))), some (38, true)⟩,
    ⟨some 43, .pick (.t 38) (.t 42) (.c (.v false (.bool false))), none⟩,
    ⟨some 44, .mv (.t 43), none⟩,
    ⟨some 45, .fad (.t 1) 18, some (44, true)⟩,
    ⟨some 46, .ld false 1 (.t 45), some (44, true)⟩,
    ⟨some 47, .bin .eql (.t 46) (.c (.v false (.int .i64 0))), some (44, true)⟩,
    ⟨some 48, .pick (.t 44) (.t 47) (.c (.v false (.bool false))), none⟩,
    ⟨some 49, .mv (.t 48), none⟩,
    ⟨some 50, .fad (.t 1) 19, some (49, true)⟩,
    ⟨some 51, .ld false 1 (.t 50), some (49, true)⟩,
    ⟨some 52, .bin .eql (.t 51) (.c (.v false (.int .i64 0))), some (49, true)⟩,
    ⟨some 53, .pick (.t 49) (.t 52) (.c (.v false (.bool false))), none⟩,
    ⟨some 54, .mv (.t 53), none⟩,
    ⟨some 55, .fad (.t 1) 20, some (54, true)⟩,
    ⟨some 56, .ld false 1 (.t 55), some (54, true)⟩,
    ⟨some 57, .bin .eql (.t 56) (.c (.v false (.int .i64 0))), some (54, true)⟩,
    ⟨some 58, .pick (.t 54) (.t 57) (.c (.v false (.bool false))), none⟩,
    ⟨some 59, .mv (.t 58), none⟩,
    ⟨some 60, .fad (.t 1) 21, some (59, true)⟩,
    ⟨some 61, .ld false 1 (.t 60), some (59, true)⟩,
    ⟨some 62, .bin .eql (.t 61) (.c (.v false (.int .i64 0))), some (59, true)⟩,
    ⟨some 63, .pick (.t 59) (.t 62) (.c (.v false (.bool false))), none⟩,
    ⟨some 64, .mv (.t 63), none⟩,
    ⟨some 65, .fad (.t 1) 22, some (64, true)⟩,
    ⟨some 66, .ld false 1 (.t 65), some (64, true)⟩,
    ⟨some 67, .bin .eql (.t 66) (.c (.v false (.int .i64 0))), some (64, true)⟩,
    ⟨some 68, .pick (.t 64) (.t 67) (.c (.v false (.bool false))), none⟩,
    ⟨some 69, .mv (.t 68), none⟩,
    ⟨some 70, .fad (.t 1) 23, some (69, true)⟩,
    ⟨some 71, .ld false 1 (.t 70), some (69, true)⟩,
    ⟨some 72, .un .not (.t 71), some (69, true)⟩,
    ⟨some 73, .pick (.t 69) (.t 72) (.c (.v false (.bool false))), none⟩,
    ⟨some 74, .mv (.t 73), none⟩,
    ⟨some 75, .fad (.t 1) 24, some (74, true)⟩,
    ⟨some 76, .ld false 1 (.t 75), some (74, true)⟩,
    ⟨some 77, .len (.t 76), some (74, true)⟩,
    ⟨some 78, .bin .eql (.t 77) (.c (.v false (.int .i64 0))), some (74, true)⟩,
    ⟨some 79, .pick (.t 74) (.t 78) (.c (.v false (.bool false))), none⟩,
    ⟨some 2, .mv (.t 79), none⟩] none)
  (.ret))

def pf67 : PF := ⟨[.s 2], [], pb67⟩

-- loop.example/g00496/impl.mayHave
def pb81 : PC :=
.seq (.reg [0, 1] [] [
   ⟨some 4, .mv (.c (.v false (.bool false))), none⟩] none)
 (.seq (.seq (.reg [0, 1, 6] [] [
     ⟨some 5, .mv (.t 1), none⟩,
     ⟨some 6, .bin .eql (.t 5) (.c (.v false (.int .i64 0))), none⟩] none)
   (.cond (.t 6) (.seq (.reg [4] [] [
       ⟨some 4, .mv (.c (.v false (.bool true))), none⟩] none)
     (.ret))
    (.skip)))
  (.seq (.seq (.reg [1, 8] [] [
      ⟨some 7, .mv (.t 0), none⟩,
      ⟨some 8, .bin .lss (.t 7) (.c (.v false (.int .i64 3))), none⟩] none)
    (.cond (.t 8) (.seq (.reg [4] [(10, 4)] [
        ⟨some 9, .mv (.t 1), none⟩,
        ⟨some 10, .call 87 [] [(.t 9), (.c (.v false (.int .i64 1))), (.c (.v false (.int .i64 3)))], none⟩,
        ⟨some 4, .mv (.t 10), none⟩] none)
      (.ret))
     (.skip)))
   (.seq (.reg [4] [] [
      ⟨some 11, .mv (.t 1), none⟩,
      ⟨some 12, .bin .eql (.t 11) (.c (.v false (.int .i64 4))), none⟩,
      ⟨some 4, .mv (.t 12), none⟩] none)
    (.ret))))

def pf81 : PF := ⟨[.s 4], [], pb81⟩

-- loop.example/g00496/impl.refOk
def pb82 : PC :=
.seq (.reg [1] [] [
   ⟨some 1, .box 5 (.t 0), none⟩,
   ⟨some 2, .mv (.c (.v false (.bool false))), none⟩] none)
 (.seq (.reg [2] [(24, 2)] [
    ⟨some 3, .fad (.t 1) 0, none⟩,
    ⟨some 4, .ld false 1 (.t 3), none⟩,
    ⟨some 5, .bin .geq (.t 4) (.c (.v false (.int .i64 0))), none⟩,
    ⟨some 6, .mv (.t 5), none⟩,
    ⟨some 7, .fad (.t 1) 1, some (6, true)⟩,
    ⟨some 8, .ld false 1 (.t 7), some (6, true)⟩,
    ⟨some 9, .bin .geq (.t 8) (.c (.v false (.int .i64 0))), some (6, true)⟩,
    ⟨some 10, .pick (.t 6) (.t 9) (.c (.v false (.bool false))), none⟩,
    ⟨some 11, .mv (.t 10), none⟩,
    ⟨some 12, .fad (.t 1) 2, some (11, true)⟩,
    ⟨some 13, .ld false 1 (.t 12), some (11, true)⟩,
    ⟨some 14, .bin .eql (.t 13) (.c (.v false (.int .i64 1))), some (11, true)⟩,
    ⟨some 15, .mv (.t 14), some (11, true)⟩,
    ⟨some 16, .fad (.t 1) 2, some (15, false)⟩,
    ⟨some 17, .ld false 1 (.t 16), some (15, false)⟩,
    ⟨some 18, .bin .eql (.t 17) (.c (.v false (.int .i64 2))), some (15, false)⟩,
    ⟨some 19, .pick (.t 15) (.c (.v false (.bool true))) (.t 18), some (11, true)⟩,
    ⟨some 20, .pick (.t 11) (.t 19) (.c (.v false (.bool false))), none⟩,
    ⟨some 21, .mv (.t 20), none⟩,
    ⟨some 22, .fad (.t 1) 4, some (21, true)⟩,
    ⟨some 23, .ld false 1 (.t 22), some (21, true)⟩,
    ⟨some 24, .call 87 [] [(.t 23), (.c (.v false (.int .i64 1))), (.c (.v false (.int .i64 1000000000)))], some (21, true)⟩,
    ⟨some 25, .pick (.t 21) (.t 24) (.c (.v false (.bool false))), none⟩,
    ⟨some 2, .mv (.t 25), none⟩] none)
  (.ret))

def pf82 : PF := ⟨[.s 2], [], pb82⟩

-- loop.example/g00496/impl.sameInts
def pl84_0 : PC :=
.seq (.reg [0, 1, 12, 13, 14] [] [
         ⟨some 14, .bin .lss (.t 13) (.t 12), none⟩] none)
       (.seq (.cond (.t 14) (.skip)
         (.exit 0))
        (.seq (.blk 1 (.seq (.reg [0, 1, 5, 12, 13] [] [
             ⟨some 15, .mv (.t 13), none⟩,
             ⟨some 5, .mv (.t 15), none⟩] none)
           (.seq (.reg [0, 1, 12, 13, 24] [] [
              ⟨some 16, .mv (.t 0), none⟩,
              ⟨some 17, .mv (.t 5), none⟩,
              ⟨some 18, .iad 1 (.t 16) (.t 17), none⟩,
              ⟨some 19, .ld false 1 (.t 18), none⟩,
              ⟨some 20, .mv (.t 1), none⟩,
              ⟨some 21, .mv (.t 5), none⟩,
              ⟨some 22, .iad 1 (.t 20) (.t 21), none⟩,
              ⟨some 23, .ld false 1 (.t 22), none⟩,
              ⟨some 24, .bin .neq (.t 19) (.t 23), none⟩] (some []))
            (.cond (.t 24) (.seq (.reg [4] [] [
                ⟨some 4, .mv (.c (.v false (.bool false))), none⟩] none)
              (.ret))
             (.skip)))))
         (.reg [0, 1, 12, 13] [] [
           ⟨some 25, .bin .add (.t 13) (.c (.v false (.int .i64 1))), none⟩,
           ⟨some 13, .mv (.t 25), none⟩] none)))

def pb84 : PC :=
.seq (.reg [0, 1] [] [
   ⟨some 4, .mv (.c (.v false (.bool false))), none⟩] none)
 (.seq (.seq (.reg [0, 1, 10] [] [
     ⟨some 6, .mv (.t 0), none⟩,
     ⟨some 7, .len (.t 6), none⟩,
     ⟨some 8, .mv (.t 1), none⟩,
     ⟨some 9, .len (.t 8), none⟩,
     ⟨some 10, .bin .neq (.t 7) (.t 9), none⟩] none)
   (.cond (.t 10) (.seq (.reg [4] [] [
       ⟨some 4, .mv (.c (.v false (.bool false))), none⟩] none)
     (.ret))
    (.skip)))
  (.seq (.seq (.reg [0, 1, 12, 13] [] [
      ⟨some 11, .mv (.t 0), none⟩,
      ⟨some 12, .len (.t 11), none⟩,
      ⟨some 13, .mv (.c (.v false (.int .i64 0))), none⟩] none)
    (.blk 0 (.loop pl84_0)))
   (.seq (.reg [4] [] [
      ⟨some 4, .mv (.c (.v false (.bool true))), none⟩] none)
    (.ret))))

def pf84 : PF := ⟨[.s 4], [], pb84⟩

-- loop.example/g00496/impl.samePred
def pl85_0 : PC :=
.seq (.reg [2, 3, 43, 44, 45] [] [
         ⟨some 45, .bin .lss (.t 44) (.t 43), none⟩] none)
       (.seq (.cond (.t 45) (.skip)
         (.exit 0))
        (.seq (.blk 1 (.seq (.reg [2, 3, 5, 43, 44] [] [
             ⟨some 46, .mv (.t 44), none⟩,
             ⟨some 5, .mv (.t 46), none⟩] none)
           (.seq (.reg [2, 3, 43, 44, 58] [] [
              ⟨some 47, .fad (.t 2) 6, none⟩,
              ⟨some 48, .ld false 1 (.t 47), none⟩,
              ⟨some 49, .mv (.t 5), none⟩,
              ⟨some 50, .iad 7 (.t 48) (.t 49), none⟩,
              ⟨some 51, .ld true 7 (.t 50), none⟩,
              ⟨some 52, .fad (.t 3) 6, none⟩,
              ⟨some 53, .ld false 1 (.t 52), none⟩,
              ⟨some 54, .mv (.t 5), none⟩,
              ⟨some 55, .iad 7 (.t 53) (.t 54), none⟩,
              ⟨some 56, .ld true 7 (.t 55), none⟩,
              ⟨some 57, .call 85 [] [(.t 51), (.t 56)], none⟩,
              ⟨some 58, .un .not (.t 57), none⟩] (some []))
            (.cond (.t 58) (.seq (.reg [4] [] [
                ⟨some 4, .mv (.c (.v false (.bool false))), none⟩] none)
              (.ret))
             (.skip)))))
         (.reg [2, 3, 43, 44] [] [
           ⟨some 59, .bin .add (.t 44) (.c (.v false (.int .i64 1))), none⟩,
           ⟨some 44, .mv (.t 59), none⟩] none)))

def pb85 : PC :=
.seq (.reg [2, 3] [] [
   ⟨some 2, .box 7 (.t 0), none⟩,
   ⟨some 3, .box 7 (.t 1), none⟩,
   ⟨some 4, .mv (.c (.v false (.bool false))), none⟩] none)
 (.seq (.seq (.reg [2, 3, 40] [] [
     ⟨some 6, .fad (.t 2) 0, none⟩,
     ⟨some 7, .ld false 1 (.t 6), none⟩,
     ⟨some 8, .fad (.t 3) 0, none⟩,
     ⟨some 9, .ld false 1 (.t 8), none⟩,
     ⟨some 10, .bin .neq (.t 7) (.t 9), none⟩,
     ⟨some 11, .mv (.t 10), none⟩,
     ⟨some 12, .fad (.t 2) 1, some (11, false)⟩,
     ⟨some 13, .ld false 1 (.t 12), some (11, false)⟩,
     ⟨some 14, .fad (.t 3) 1, some (11, false)⟩,
     ⟨some 15, .ld false 1 (.t 14), some (11, false)⟩,
     ⟨some 16, .bin .neq (.t 13) (.t 15), some (11, false)⟩,
     ⟨some 17, .pick (.t 11) (.c (.v false (.bool true))) (.t 16), none⟩,
     ⟨some 18, .mv (.t 17), none⟩,
     ⟨some 19, .fad (.t 2) 2, some (18, false)⟩,
     ⟨some 20, .ld false 1 (.t 19), some (18, false)⟩,
     ⟨some 21, .fad (.t 3) 2, some (18, false)⟩,
     ⟨some 22, .ld false 1 (.t 21), some (18, false)⟩,
     ⟨some 23, .bin .neq (.t 20) (.t 22), some (18, false)⟩,
     ⟨some 24, .pick (.t 18) (.c (.v false (.bool true))) (.t 23), none⟩,
     ⟨some 25, .mv (.t 24), none⟩,
     ⟨some 26, .fad (.t 2) 3, some (25, false)⟩,
     ⟨some 27, .ld true 3 (.t 26), some (25, false)⟩,
     ⟨some 28, .fad (.t 3) 3, some (25, false)⟩,
     ⟨some 29, .ld true 3 (.t 28), some (25, false)⟩,
     ⟨some 30, .eqs true [0, 0, 2] (.t 27) (.t 29), some (25, false)⟩,
     ⟨some 31, .pick (.t 25) (.c (.v false (.bool true))) (.t 30), none⟩,
     ⟨some 32, .mv (.t 31), none⟩,
     ⟨some 33, .fad (.t 2) 6, some (32, false)⟩,
     ⟨some 34, .ld false 1 (.t 33), some (32, false)⟩,
     ⟨some 35, .len (.t 34), some (32, false)⟩,
     ⟨some 36, .fad (.t 3) 6, some (32, false)⟩,
     ⟨some 37, .ld false 1 (.t 36), some (32, false)⟩,
     ⟨some 38, .len (.t 37), some (32, false)⟩,
     ⟨some 39, .bin .neq (.t 35) (.t 38), some (32, false)⟩,
     ⟨some 40, .pick (.t 32) (.c (.v false (.bool true))) (.t 39), none⟩] none)
   (.cond (.t 40) (.seq (.reg [4] [] [
       ⟨some 4, .mv (.c (.v false (.bool false))), none⟩] none)
     (.ret))
    (.skip)))
  (.seq (.seq (.reg [2, 3, 43, 44] [] [
      ⟨some 41, .fad (.t 2) 6, none⟩,
      ⟨some 42, .ld false 1 (.t 41), none⟩,
      ⟨some 43, .len (.t 42), none⟩,
      ⟨some 44, .mv (.c (.v false (.int .i64 0))), none⟩] none)
    (.blk 0 (.loop pl85_0)))
   (.seq (.reg [4] [] [
      ⟨some 4, .mv (.c (.v false (.bool true))), none⟩] none)
    (.ret))))

def pf85 : PF := ⟨[.s 4], [], pb85⟩

-- loop.example/g00496/impl.sameQuery
def pb86 : PC :=
.seq (.reg [2, 3] [] [
   ⟨some 2, .box 10 (.t 0), none⟩,
   ⟨some 3, .box 10 (.t 1), none⟩,
   ⟨some 4, .mv (.c (.v false (.bool false))), none⟩] none)
 (.seq (.reg [4, 29] [(15, 4)] [
    ⟨some 5, .fad (.t 2) 0, none⟩,
    ⟨some 6, .ld false 1 (.t 5), none⟩,
    ⟨some 7, .fad (.t 3) 0, none⟩,
    ⟨some 8, .ld false 1 (.t 7), none⟩,
    ⟨some 9, .bin .eql (.t 6) (.t 8), none⟩,
    ⟨some 10, .mv (.t 9), none⟩,
    ⟨some 11, .fad (.t 2) 1, some (10, true)⟩,
    ⟨some 12, .ld true 7 (.t 11), some (10, true)⟩,
    ⟨some 13, .fad (.t 3) 1, some (10, true)⟩,
    ⟨some 14, .ld true 7 (.t 13), some (10, true)⟩,
    ⟨some 15, .call 85 [] [(.t 12), (.t 14)], some (10, true)⟩,
    ⟨some 16, .pick (.t 10) (.t 15) (.c (.v false (.bool false))), none⟩,
    ⟨some 17, .mv (.t 16), none⟩,
    ⟨some 18, .fad (.t 2) 8, some (17, true)⟩,
    ⟨some 19, .ld false 1 (.t 18), some (17, true)⟩,
    ⟨some 20, .fad (.t 3) 8, some (17, true)⟩,
    ⟨some 21, .ld false 1 (.t 20), some (17, true)⟩,
    ⟨some 22, .bin .eql (.t 19) (.t 21), some (17, true)⟩,
    ⟨some 23, .pick (.t 17) (.t 22) (.c (.v false (.bool false))), none⟩,
    ⟨some 24, .mv (.t 23), none⟩,
    ⟨some 25, .fad (.t 2) 9, some (24, true)⟩,
    ⟨some 26, .ld false 1 (.t 25), some (24, true)⟩,
    ⟨some 27, .fad (.t 3) 9, some (24, true)⟩,
    ⟨some 28, .ld false 1 (.t 27), some (24, true)⟩,
    ⟨some 29, .call 84 [] [(.t 26), (.t 28)], some (24, true)⟩,
    ⟨some 30, .pick (.t 24) (.t 29) (.c (.v false (.bool false))), none⟩,
    ⟨some 4, .mv (.t 30), none⟩] none)
  (.ret))

def pf86 : PF := ⟨[.s 4], [], pb86⟩

-- loop.example/g00496/impl.within
def pb87 : PC :=
.seq (.reg [0, 1, 2] [] [
   ⟨some 6, .mv (.c (.v false (.bool false))), none⟩] none)
 (.seq (.reg [6] [] [
    ⟨some 7, .mv (.t 0), none⟩,
    ⟨some 8, .mv (.t 1), none⟩,
    ⟨some 9, .bin .geq (.t 7) (.t 8), none⟩,
    ⟨some 10, .mv (.t 9), none⟩,
    ⟨some 11, .mv (.t 0), some (10, true)⟩,
    ⟨some 12, .mv (.t 2), some (10, true)⟩,
    ⟨some 13, .bin .leq (.t 11) (.t 12), some (10, true)⟩,
    ⟨some 14, .pick (.t 10) (.t 13) (.c (.v false (.bool false))), none⟩,
    ⟨some 6, .mv (.t 14), none⟩] none)
  (.ret))

def pf87 : PF := ⟨[.s 6], [], pb87⟩

-- loop.example/g00496/laws.FnExactTaskOk
def pb132 : PC :=
.seq (.reg [1, 2] [] [
   ⟨some 2, .box 25 (.t 0), none⟩,
   ⟨some 4, .mv (.c (.v false (.bool false))), none⟩] none)
 (.seq (.reg [1, 2, 5] [] [
    ⟨some 5, .mv (.c (.v false (.int .i64 1048576))), none⟩] none)
  (.seq (.reg [1, 2, 5] [(11, 5)] [
     ⟨some 9, .ld true 25 (.t 2), none⟩,
     ⟨some 10, .mv (.t 5), none⟩,
     ⟨some 11, .call 229 [] [(.t 9), (.t 10)], none⟩,
     ⟨some 5, .mv (.t 11), none⟩] none)
   (.seq (.seq (.reg [1, 2, 13] [] [
       ⟨some 12, .mv (.t 5), none⟩,
       ⟨some 13, .bin .lss (.t 12) (.c (.v false (.int .i64 0))), none⟩] none)
     (.cond (.t 13) (.seq (.reg [4] [] [
         ⟨some 4, .mv (.c (.v false (.bool true))), none⟩] none)
       (.ret))
      (.skip)))
    (.seq (.reg [1, 2, 6] [(17, 6)] [
       ⟨some 14, .ld true 25 (.t 2), none⟩,
       ⟨some 15, .call 255 [] [(.t 14)], none⟩,
       ⟨some 16, .mv (.t 1), none⟩,
       ⟨some 17, .call 339 [] [(.t 15), (.t 16)], none⟩,
       ⟨some 6, .mv (.t 17), none⟩] none)
     (.seq (.reg [1, 2, 6, 7] [] [
        ⟨some 18, .ld true 25 (.t 2), none⟩,
        ⟨some 19, .call 255 [] [(.t 18)], none⟩,
        ⟨some 7, .alloc [(.v false (.int .i64 0)), (.v false (.int .i64 0)), (.v false (.int .i64 0)), (.nl 3), (.v false (.int .i64 0)), (.v false (.int .i64 0)), (.v false (.int .i64 0)), (.v false (.int .i64 0)), (.v false (.int .i64 0)), (.v false (.int .i64 0)), (.v false (.int .i64 0)), (.v false (.str ⟨#[]⟩)), (.nl 7), (.v false (.int .i64 0)), (.nl 1), (.v false (.int .i64 0)), (.v false (.int .i64 0)), (.nl 5), (.v false (.int .i64 0)), (.v false (.int .i64 0)), (.v false (.int .i64 0)), (.v false (.int .i64 0)), (.v false (.int .i64 0)), (.v false (.bool false)), (.nl 2)], none⟩,
        ⟨none, .st 25 (.t 7) (.t 19), none⟩] none)
      (.seq (.reg [2, 6, 7, 8] [(22, 8)] [
         ⟨some 20, .ld true 25 (.t 7), none⟩,
         ⟨some 21, .mv (.t 1), none⟩,
         ⟨some 22, .call 58 [] [(.t 20), (.t 21)], none⟩,
         ⟨some 8, .mv (.t 22), none⟩] none)
       (.seq (.seq (.reg [2, 7, 25] [] [
           ⟨some 23, .mv (.t 8), none⟩,
           ⟨some 24, .mv (.t 6), none⟩,
           ⟨some 25, .eqb true (.t 23) (.t 24), none⟩] none)
         (.cond (.t 25) (.seq (.reg [4] [] [
             ⟨some 4, .mv (.c (.v false (.bool false))), none⟩] none)
           (.ret))
          (.skip)))
        (.seq (.seq (.reg [30] [] [
            ⟨some 26, .ld true 25 (.t 7), none⟩,
            ⟨some 27, .ld true 25 (.t 2), none⟩,
            ⟨some 28, .call 255 [] [(.t 27)], none⟩,
            ⟨some 29, .call 163 [] [(.t 26), (.t 28)], none⟩,
            ⟨some 30, .un .not (.t 29), none⟩] (some [(0, 2)]))
          (.cond (.t 30) (.seq (.reg [4] [] [
              ⟨some 4, .mv (.c (.v false (.bool false))), none⟩] none)
            (.ret))
           (.skip)))
         (.seq (.reg [4] [] [
            ⟨some 4, .mv (.c (.v false (.bool true))), none⟩] none)
          (.ret))))))))))

def pf132 : PF := ⟨[.s 4], [], pb132⟩

-- loop.example/g00496/laws.eqIntS
def pl152_0 : PC :=
.seq (.seq (.reg [0, 1, 5, 14] [] [
          ⟨some 11, .mv (.t 5), none⟩,
          ⟨some 12, .mv (.t 0), none⟩,
          ⟨some 13, .len (.t 12), none⟩,
          ⟨some 14, .bin .lss (.t 11) (.t 13), none⟩] none)
        (.cond (.t 14) (.skip)
         (.exit 0)))
       (.seq (.blk 1 (.seq (.reg [0, 1, 5, 25] [] [
            ⟨some 17, .mv (.t 0), none⟩,
            ⟨some 18, .mv (.t 5), none⟩,
            ⟨some 19, .iad 1 (.t 17) (.t 18), none⟩,
            ⟨some 20, .ld false 1 (.t 19), none⟩,
            ⟨some 21, .mv (.t 1), none⟩,
            ⟨some 22, .mv (.t 5), none⟩,
            ⟨some 23, .iad 1 (.t 21) (.t 22), none⟩,
            ⟨some 24, .ld false 1 (.t 23), none⟩,
            ⟨some 25, .bin .neq (.t 20) (.t 24), none⟩] (some []))
          (.cond (.t 25) (.seq (.reg [4] [] [
              ⟨some 4, .mv (.c (.v false (.bool false))), none⟩] none)
            (.ret))
           (.skip))))
        (.reg [0, 1, 5] [] [
          ⟨some 15, .mv (.t 5), none⟩,
          ⟨some 16, .bin .add (.t 15) (.c (.v false (.int .i64 1))), none⟩,
          ⟨some 5, .mv (.t 16), none⟩] none))

def pb152 : PC :=
.seq (.reg [0, 1] [] [
   ⟨some 4, .mv (.c (.v false (.bool false))), none⟩] none)
 (.seq (.seq (.reg [0, 1, 10] [] [
     ⟨some 6, .mv (.t 0), none⟩,
     ⟨some 7, .len (.t 6), none⟩,
     ⟨some 8, .mv (.t 1), none⟩,
     ⟨some 9, .len (.t 8), none⟩,
     ⟨some 10, .bin .neq (.t 7) (.t 9), none⟩] none)
   (.cond (.t 10) (.seq (.reg [4] [] [
       ⟨some 4, .mv (.c (.v false (.bool false))), none⟩] none)
     (.ret))
    (.skip)))
  (.seq (.seq (.reg [0, 1, 5] [] [
      ⟨some 5, .mv (.c (.v false (.int .i64 0))), none⟩] none)
    (.blk 0 (.loop pl152_0)))
   (.seq (.reg [4] [] [
      ⟨some 4, .mv (.c (.v false (.bool true))), none⟩] none)
    (.ret))))

def pf152 : PF := ⟨[.s 4], [], pb152⟩

-- loop.example/g00496/laws.eqPred
def pb153 : PC :=
.seq (.reg [2, 3] [] [
   ⟨some 2, .box 7 (.t 0), none⟩,
   ⟨some 3, .box 7 (.t 1), none⟩,
   ⟨some 4, .mv (.c (.v false (.bool false))), none⟩] none)
 (.seq (.seq (.reg [2, 3, 9] [] [
     ⟨some 5, .fad (.t 2) 0, none⟩,
     ⟨some 6, .ld false 1 (.t 5), none⟩,
     ⟨some 7, .fad (.t 3) 0, none⟩,
     ⟨some 8, .ld false 1 (.t 7), none⟩,
     ⟨some 9, .bin .neq (.t 6) (.t 8), none⟩] none)
   (.cond (.t 9) (.seq (.reg [4] [] [
       ⟨some 4, .mv (.c (.v false (.bool false))), none⟩] none)
     (.ret))
    (.skip)))
  (.seq (.seq (.reg [2, 3, 14] [] [
      ⟨some 10, .fad (.t 2) 1, none⟩,
      ⟨some 11, .ld false 1 (.t 10), none⟩,
      ⟨some 12, .fad (.t 3) 1, none⟩,
      ⟨some 13, .ld false 1 (.t 12), none⟩,
      ⟨some 14, .bin .neq (.t 11) (.t 13), none⟩] none)
    (.cond (.t 14) (.seq (.reg [4] [] [
        ⟨some 4, .mv (.c (.v false (.bool false))), none⟩] none)
      (.ret))
     (.skip)))
   (.seq (.seq (.reg [2, 3, 19] [] [
       ⟨some 15, .fad (.t 2) 2, none⟩,
       ⟨some 16, .ld false 1 (.t 15), none⟩,
       ⟨some 17, .fad (.t 3) 2, none⟩,
       ⟨some 18, .ld false 1 (.t 17), none⟩,
       ⟨some 19, .bin .neq (.t 16) (.t 18), none⟩] none)
     (.cond (.t 19) (.seq (.reg [4] [] [
         ⟨some 4, .mv (.c (.v false (.bool false))), none⟩] none)
       (.ret))
      (.skip)))
    (.seq (.seq (.reg [2, 3, 25] [] [
        ⟨some 20, .fad (.t 2) 3, none⟩,
        ⟨some 21, .ld true 3 (.t 20), none⟩,
        ⟨some 22, .fad (.t 3) 3, none⟩,
        ⟨some 23, .ld true 3 (.t 22), none⟩,
        ⟨some 24, .call 165 [] [(.t 21), (.t 23)], none⟩,
        ⟨some 25, .un .not (.t 24), none⟩] none)
      (.cond (.t 25) (.seq (.reg [4] [] [
          ⟨some 4, .mv (.c (.v false (.bool false))), none⟩] none)
        (.ret))
       (.skip)))
     (.seq (.seq (.reg [31] [] [
         ⟨some 26, .fad (.t 2) 6, none⟩,
         ⟨some 27, .ld false 1 (.t 26), none⟩,
         ⟨some 28, .fad (.t 3) 6, none⟩,
         ⟨some 29, .ld false 1 (.t 28), none⟩,
         ⟨some 30, .call 154 [] [(.t 27), (.t 29)], none⟩,
         ⟨some 31, .un .not (.t 30), none⟩] none)
       (.cond (.t 31) (.seq (.reg [4] [] [
           ⟨some 4, .mv (.c (.v false (.bool false))), none⟩] none)
         (.ret))
        (.skip)))
      (.seq (.reg [4] [] [
         ⟨some 4, .mv (.c (.v false (.bool true))), none⟩] none)
       (.ret)))))))

def pf153 : PF := ⟨[.s 4], [], pb153⟩

-- loop.example/g00496/laws.eqPredS
def pl154_0 : PC :=
.seq (.seq (.reg [0, 1, 5, 14] [] [
          ⟨some 11, .mv (.t 5), none⟩,
          ⟨some 12, .mv (.t 0), none⟩,
          ⟨some 13, .len (.t 12), none⟩,
          ⟨some 14, .bin .lss (.t 11) (.t 13), none⟩] none)
        (.cond (.t 14) (.skip)
         (.exit 0)))
       (.seq (.blk 1 (.seq (.reg [0, 1, 5, 26] [] [
            ⟨some 17, .mv (.t 0), none⟩,
            ⟨some 18, .mv (.t 5), none⟩,
            ⟨some 19, .iad 7 (.t 17) (.t 18), none⟩,
            ⟨some 20, .ld true 7 (.t 19), none⟩,
            ⟨some 21, .mv (.t 1), none⟩,
            ⟨some 22, .mv (.t 5), none⟩,
            ⟨some 23, .iad 7 (.t 21) (.t 22), none⟩,
            ⟨some 24, .ld true 7 (.t 23), none⟩,
            ⟨some 25, .call 153 [] [(.t 20), (.t 24)], none⟩,
            ⟨some 26, .un .not (.t 25), none⟩] (some []))
          (.cond (.t 26) (.seq (.reg [4] [] [
              ⟨some 4, .mv (.c (.v false (.bool false))), none⟩] none)
            (.ret))
           (.skip))))
        (.reg [0, 1, 5] [] [
          ⟨some 15, .mv (.t 5), none⟩,
          ⟨some 16, .bin .add (.t 15) (.c (.v false (.int .i64 1))), none⟩,
          ⟨some 5, .mv (.t 16), none⟩] none))

def pb154 : PC :=
.seq (.reg [0, 1] [] [
   ⟨some 4, .mv (.c (.v false (.bool false))), none⟩] none)
 (.seq (.seq (.reg [0, 1, 10] [] [
     ⟨some 6, .mv (.t 0), none⟩,
     ⟨some 7, .len (.t 6), none⟩,
     ⟨some 8, .mv (.t 1), none⟩,
     ⟨some 9, .len (.t 8), none⟩,
     ⟨some 10, .bin .neq (.t 7) (.t 9), none⟩] none)
   (.cond (.t 10) (.seq (.reg [4] [] [
       ⟨some 4, .mv (.c (.v false (.bool false))), none⟩] none)
     (.ret))
    (.skip)))
  (.seq (.seq (.reg [0, 1, 5] [] [
      ⟨some 5, .mv (.c (.v false (.int .i64 0))), none⟩] none)
    (.blk 0 (.loop pl154_0)))
   (.seq (.reg [4] [] [
      ⟨some 4, .mv (.c (.v false (.bool true))), none⟩] none)
    (.ret))))

def pf154 : PF := ⟨[.s 4], [], pb154⟩

-- loop.example/g00496/laws.eqQuery
def pb155 : PC :=
.seq (.reg [2, 3] [] [
   ⟨some 2, .box 10 (.t 0), none⟩,
   ⟨some 3, .box 10 (.t 1), none⟩,
   ⟨some 4, .mv (.c (.v false (.bool false))), none⟩] none)
 (.seq (.seq (.reg [2, 3, 9] [] [
     ⟨some 5, .fad (.t 2) 0, none⟩,
     ⟨some 6, .ld false 1 (.t 5), none⟩,
     ⟨some 7, .fad (.t 3) 0, none⟩,
     ⟨some 8, .ld false 1 (.t 7), none⟩,
     ⟨some 9, .bin .neq (.t 6) (.t 8), none⟩] none)
   (.cond (.t 9) (.seq (.reg [4] [] [
       ⟨some 4, .mv (.c (.v false (.bool false))), none⟩] none)
     (.ret))
    (.skip)))
  (.seq (.seq (.reg [2, 3, 15] [] [
      ⟨some 10, .fad (.t 2) 1, none⟩,
      ⟨some 11, .ld true 7 (.t 10), none⟩,
      ⟨some 12, .fad (.t 3) 1, none⟩,
      ⟨some 13, .ld true 7 (.t 12), none⟩,
      ⟨some 14, .call 153 [] [(.t 11), (.t 13)], none⟩,
      ⟨some 15, .un .not (.t 14), none⟩] none)
    (.cond (.t 15) (.seq (.reg [4] [] [
        ⟨some 4, .mv (.c (.v false (.bool false))), none⟩] none)
      (.ret))
     (.skip)))
   (.seq (.seq (.reg [2, 3, 20] [] [
       ⟨some 16, .fad (.t 2) 8, none⟩,
       ⟨some 17, .ld false 1 (.t 16), none⟩,
       ⟨some 18, .fad (.t 3) 8, none⟩,
       ⟨some 19, .ld false 1 (.t 18), none⟩,
       ⟨some 20, .bin .neq (.t 17) (.t 19), none⟩] none)
     (.cond (.t 20) (.seq (.reg [4] [] [
         ⟨some 4, .mv (.c (.v false (.bool false))), none⟩] none)
       (.ret))
      (.skip)))
    (.seq (.seq (.reg [26] [] [
        ⟨some 21, .fad (.t 2) 9, none⟩,
        ⟨some 22, .ld false 1 (.t 21), none⟩,
        ⟨some 23, .fad (.t 3) 9, none⟩,
        ⟨some 24, .ld false 1 (.t 23), none⟩,
        ⟨some 25, .call 152 [] [(.t 22), (.t 24)], none⟩,
        ⟨some 26, .un .not (.t 25), none⟩] none)
      (.cond (.t 26) (.seq (.reg [4] [] [
          ⟨some 4, .mv (.c (.v false (.bool false))), none⟩] none)
        (.ret))
       (.skip)))
     (.seq (.reg [4] [] [
        ⟨some 4, .mv (.c (.v false (.bool true))), none⟩] none)
      (.ret))))))

def pf155 : PF := ⟨[.s 4], [], pb155⟩

-- loop.example/g00496/laws.eqRef
def pb156 : PC :=
.seq (.reg [2, 3] [] [
   ⟨some 2, .box 5 (.t 0), none⟩,
   ⟨some 3, .box 5 (.t 1), none⟩,
   ⟨some 4, .mv (.c (.v false (.bool false))), none⟩] none)
 (.seq (.seq (.reg [2, 3, 9] [] [
     ⟨some 5, .fad (.t 2) 0, none⟩,
     ⟨some 6, .ld false 1 (.t 5), none⟩,
     ⟨some 7, .fad (.t 3) 0, none⟩,
     ⟨some 8, .ld false 1 (.t 7), none⟩,
     ⟨some 9, .bin .neq (.t 6) (.t 8), none⟩] none)
   (.cond (.t 9) (.seq (.reg [4] [] [
       ⟨some 4, .mv (.c (.v false (.bool false))), none⟩] none)
     (.ret))
    (.skip)))
  (.seq (.seq (.reg [2, 3, 14] [] [
      ⟨some 10, .fad (.t 2) 1, none⟩,
      ⟨some 11, .ld false 1 (.t 10), none⟩,
      ⟨some 12, .fad (.t 3) 1, none⟩,
      ⟨some 13, .ld false 1 (.t 12), none⟩,
      ⟨some 14, .bin .neq (.t 11) (.t 13), none⟩] none)
    (.cond (.t 14) (.seq (.reg [4] [] [
        ⟨some 4, .mv (.c (.v false (.bool false))), none⟩] none)
      (.ret))
     (.skip)))
   (.seq (.seq (.reg [2, 3, 19] [] [
       ⟨some 15, .fad (.t 2) 2, none⟩,
       ⟨some 16, .ld false 1 (.t 15), none⟩,
       ⟨some 17, .fad (.t 3) 2, none⟩,
       ⟨some 18, .ld false 1 (.t 17), none⟩,
       ⟨some 19, .bin .neq (.t 16) (.t 18), none⟩] none)
     (.cond (.t 19) (.seq (.reg [4] [] [
         ⟨some 4, .mv (.c (.v false (.bool false))), none⟩] none)
       (.ret))
      (.skip)))
    (.seq (.seq (.reg [2, 3, 24] [] [
        ⟨some 20, .fad (.t 2) 3, none⟩,
        ⟨some 21, .ld false 1 (.t 20), none⟩,
        ⟨some 22, .fad (.t 3) 3, none⟩,
        ⟨some 23, .ld false 1 (.t 22), none⟩,
        ⟨some 24, .bin .neq (.t 21) (.t 23), none⟩] none)
      (.cond (.t 24) (.seq (.reg [4] [] [
          ⟨some 4, .mv (.c (.v false (.bool false))), none⟩] none)
        (.ret))
       (.skip)))
     (.seq (.seq (.reg [29] [] [
         ⟨some 25, .fad (.t 2) 4, none⟩,
         ⟨some 26, .ld false 1 (.t 25), none⟩,
         ⟨some 27, .fad (.t 3) 4, none⟩,
         ⟨some 28, .ld false 1 (.t 27), none⟩,
         ⟨some 29, .bin .neq (.t 26) (.t 28), none⟩] none)
       (.cond (.t 29) (.seq (.reg [4] [] [
           ⟨some 4, .mv (.c (.v false (.bool false))), none⟩] none)
         (.ret))
        (.skip)))
      (.seq (.reg [4] [] [
         ⟨some 4, .mv (.c (.v false (.bool true))), none⟩] none)
       (.ret)))))))

def pf156 : PF := ⟨[.s 4], [], pb156⟩

-- loop.example/g00496/laws.eqRefS
def pl157_0 : PC :=
.seq (.seq (.reg [0, 1, 5, 14] [] [
          ⟨some 11, .mv (.t 5), none⟩,
          ⟨some 12, .mv (.t 0), none⟩,
          ⟨some 13, .len (.t 12), none⟩,
          ⟨some 14, .bin .lss (.t 11) (.t 13), none⟩] none)
        (.cond (.t 14) (.skip)
         (.exit 0)))
       (.seq (.blk 1 (.seq (.reg [0, 1, 5, 26] [] [
            ⟨some 17, .mv (.t 0), none⟩,
            ⟨some 18, .mv (.t 5), none⟩,
            ⟨some 19, .iad 5 (.t 17) (.t 18), none⟩,
            ⟨some 20, .ld true 5 (.t 19), none⟩,
            ⟨some 21, .mv (.t 1), none⟩,
            ⟨some 22, .mv (.t 5), none⟩,
            ⟨some 23, .iad 5 (.t 21) (.t 22), none⟩,
            ⟨some 24, .ld true 5 (.t 23), none⟩,
            ⟨some 25, .call 156 [] [(.t 20), (.t 24)], none⟩,
            ⟨some 26, .un .not (.t 25), none⟩] (some []))
          (.cond (.t 26) (.seq (.reg [4] [] [
              ⟨some 4, .mv (.c (.v false (.bool false))), none⟩] none)
            (.ret))
           (.skip))))
        (.reg [0, 1, 5] [] [
          ⟨some 15, .mv (.t 5), none⟩,
          ⟨some 16, .bin .add (.t 15) (.c (.v false (.int .i64 1))), none⟩,
          ⟨some 5, .mv (.t 16), none⟩] none))

def pb157 : PC :=
.seq (.reg [0, 1] [] [
   ⟨some 4, .mv (.c (.v false (.bool false))), none⟩] none)
 (.seq (.seq (.reg [0, 1, 10] [] [
     ⟨some 6, .mv (.t 0), none⟩,
     ⟨some 7, .len (.t 6), none⟩,
     ⟨some 8, .mv (.t 1), none⟩,
     ⟨some 9, .len (.t 8), none⟩,
     ⟨some 10, .bin .neq (.t 7) (.t 9), none⟩] none)
   (.cond (.t 10) (.seq (.reg [4] [] [
       ⟨some 4, .mv (.c (.v false (.bool false))), none⟩] none)
     (.ret))
    (.skip)))
  (.seq (.seq (.reg [0, 1, 5] [] [
      ⟨some 5, .mv (.c (.v false (.int .i64 0))), none⟩] none)
    (.blk 0 (.loop pl157_0)))
   (.seq (.reg [4] [] [
      ⟨some 4, .mv (.c (.v false (.bool true))), none⟩] none)
    (.ret))))

def pf157 : PF := ⟨[.s 4], [], pb157⟩

-- loop.example/g00496/laws.eqRow
def pb159 : PC :=
.seq (.reg [2, 3] [] [
   ⟨some 2, .box 2 (.t 0), none⟩,
   ⟨some 3, .box 2 (.t 1), none⟩,
   ⟨some 4, .mv (.c (.v false (.bool false))), none⟩] none)
 (.seq (.seq (.reg [2, 3, 9] [] [
     ⟨some 5, .fad (.t 2) 0, none⟩,
     ⟨some 6, .ld false 1 (.t 5), none⟩,
     ⟨some 7, .fad (.t 3) 0, none⟩,
     ⟨some 8, .ld false 1 (.t 7), none⟩,
     ⟨some 9, .bin .neq (.t 6) (.t 8), none⟩] none)
   (.cond (.t 9) (.seq (.reg [4] [] [
       ⟨some 4, .mv (.c (.v false (.bool false))), none⟩] none)
     (.ret))
    (.skip)))
  (.seq (.seq (.reg [15] [] [
      ⟨some 10, .fad (.t 2) 1, none⟩,
      ⟨some 11, .ld false 1 (.t 10), none⟩,
      ⟨some 12, .fad (.t 3) 1, none⟩,
      ⟨some 13, .ld false 1 (.t 12), none⟩,
      ⟨some 14, .call 166 [] [(.t 11), (.t 13)], none⟩,
      ⟨some 15, .un .not (.t 14), none⟩] none)
    (.cond (.t 15) (.seq (.reg [4] [] [
        ⟨some 4, .mv (.c (.v false (.bool false))), none⟩] none)
      (.ret))
     (.skip)))
   (.seq (.reg [4] [] [
      ⟨some 4, .mv (.c (.v false (.bool true))), none⟩] none)
    (.ret))))

def pf159 : PF := ⟨[.s 4], [], pb159⟩

-- loop.example/g00496/laws.eqRowS
def pl160_0 : PC :=
.seq (.seq (.reg [0, 1, 5, 14] [] [
          ⟨some 11, .mv (.t 5), none⟩,
          ⟨some 12, .mv (.t 0), none⟩,
          ⟨some 13, .len (.t 12), none⟩,
          ⟨some 14, .bin .lss (.t 11) (.t 13), none⟩] none)
        (.cond (.t 14) (.skip)
         (.exit 0)))
       (.seq (.blk 1 (.seq (.reg [0, 1, 5, 26] [] [
            ⟨some 17, .mv (.t 0), none⟩,
            ⟨some 18, .mv (.t 5), none⟩,
            ⟨some 19, .iad 2 (.t 17) (.t 18), none⟩,
            ⟨some 20, .ld true 2 (.t 19), none⟩,
            ⟨some 21, .mv (.t 1), none⟩,
            ⟨some 22, .mv (.t 5), none⟩,
            ⟨some 23, .iad 2 (.t 21) (.t 22), none⟩,
            ⟨some 24, .ld true 2 (.t 23), none⟩,
            ⟨some 25, .call 159 [] [(.t 20), (.t 24)], none⟩,
            ⟨some 26, .un .not (.t 25), none⟩] (some []))
          (.cond (.t 26) (.seq (.reg [4] [] [
              ⟨some 4, .mv (.c (.v false (.bool false))), none⟩] none)
            (.ret))
           (.skip))))
        (.reg [0, 1, 5] [] [
          ⟨some 15, .mv (.t 5), none⟩,
          ⟨some 16, .bin .add (.t 15) (.c (.v false (.int .i64 1))), none⟩,
          ⟨some 5, .mv (.t 16), none⟩] none))

def pb160 : PC :=
.seq (.reg [0, 1] [] [
   ⟨some 4, .mv (.c (.v false (.bool false))), none⟩] none)
 (.seq (.seq (.reg [0, 1, 10] [] [
     ⟨some 6, .mv (.t 0), none⟩,
     ⟨some 7, .len (.t 6), none⟩,
     ⟨some 8, .mv (.t 1), none⟩,
     ⟨some 9, .len (.t 8), none⟩,
     ⟨some 10, .bin .neq (.t 7) (.t 9), none⟩] none)
   (.cond (.t 10) (.seq (.reg [4] [] [
       ⟨some 4, .mv (.c (.v false (.bool false))), none⟩] none)
     (.ret))
    (.skip)))
  (.seq (.seq (.reg [0, 1, 5] [] [
      ⟨some 5, .mv (.c (.v false (.int .i64 0))), none⟩] none)
    (.blk 0 (.loop pl160_0)))
   (.seq (.reg [4] [] [
      ⟨some 4, .mv (.c (.v false (.bool true))), none⟩] none)
    (.ret))))

def pf160 : PF := ⟨[.s 4], [], pb160⟩

-- loop.example/g00496/laws.eqTask
def pb163 : PC :=
.seq (.reg [2, 3] [] [
   ⟨some 2, .box 25 (.t 0), none⟩,
   ⟨some 3, .box 25 (.t 1), none⟩,
   ⟨some 4, .mv (.c (.v false (.bool false))), none⟩] none)
 (.seq (.seq (.reg [2, 3, 9] [] [
     ⟨some 5, .fad (.t 2) 0, none⟩,
     ⟨some 6, .ld false 1 (.t 5), none⟩,
     ⟨some 7, .fad (.t 3) 0, none⟩,
     ⟨some 8, .ld false 1 (.t 7), none⟩,
     ⟨some 9, .bin .neq (.t 6) (.t 8), none⟩] none)
   (.cond (.t 9) (.seq (.reg [4] [] [
       ⟨some 4, .mv (.c (.v false (.bool false))), none⟩] none)
     (.ret))
    (.skip)))
  (.seq (.seq (.reg [2, 3, 14] [] [
      ⟨some 10, .fad (.t 2) 1, none⟩,
      ⟨some 11, .ld false 1 (.t 10), none⟩,
      ⟨some 12, .fad (.t 3) 1, none⟩,
      ⟨some 13, .ld false 1 (.t 12), none⟩,
      ⟨some 14, .bin .neq (.t 11) (.t 13), none⟩] none)
    (.cond (.t 14) (.seq (.reg [4] [] [
        ⟨some 4, .mv (.c (.v false (.bool false))), none⟩] none)
      (.ret))
     (.skip)))
   (.seq (.seq (.reg [2, 3, 19] [] [
       ⟨some 15, .fad (.t 2) 2, none⟩,
       ⟨some 16, .ld false 1 (.t 15), none⟩,
       ⟨some 17, .fad (.t 3) 2, none⟩,
       ⟨some 18, .ld false 1 (.t 17), none⟩,
       ⟨some 19, .bin .neq (.t 16) (.t 18), none⟩] none)
     (.cond (.t 19) (.seq (.reg [4] [] [
         ⟨some 4, .mv (.c (.v false (.bool false))), none⟩] none)
       (.ret))
      (.skip)))
    (.seq (.seq (.reg [2, 3, 25] [] [
        ⟨some 20, .fad (.t 2) 3, none⟩,
        ⟨some 21, .ld false 1 (.t 20), none⟩,
        ⟨some 22, .fad (.t 3) 3, none⟩,
        ⟨some 23, .ld false 1 (.t 22), none⟩,
        ⟨some 24, .call 166 [] [(.t 21), (.t 23)], none⟩,
        ⟨some 25, .un .not (.t 24), none⟩] none)
      (.cond (.t 25) (.seq (.reg [4] [] [
          ⟨some 4, .mv (.c (.v false (.bool false))), none⟩] none)
        (.ret))
       (.skip)))
     (.seq (.seq (.reg [2, 3, 30] [] [
         ⟨some 26, .fad (.t 2) 4, none⟩,
         ⟨some 27, .ld false 1 (.t 26), none⟩,
         ⟨some 28, .fad (.t 3) 4, none⟩,
         ⟨some 29, .ld false 1 (.t 28), none⟩,
         ⟨some 30, .bin .neq (.t 27) (.t 29), none⟩] none)
       (.cond (.t 30) (.seq (.reg [4] [] [
           ⟨some 4, .mv (.c (.v false (.bool false))), none⟩] none)
         (.ret))
        (.skip)))
      (.seq (.seq (.reg [2, 3, 36] [] [
          ⟨some 31, .fad (.t 2) 5, none⟩,
          ⟨some 32, .ld true 10 (.t 31), none⟩,
          ⟨some 33, .fad (.t 3) 5, none⟩,
          ⟨some 34, .ld true 10 (.t 33), none⟩,
          ⟨some 35, .call 155 [] [(.t 32), (.t 34)], none⟩,
          ⟨some 36, .un .not (.t 35), none⟩] none)
        (.cond (.t 36) (.seq (.reg [4] [] [
            ⟨some 4, .mv (.c (.v false (.bool false))), none⟩] none)
          (.ret))
         (.skip)))
       (.seq (.seq (.reg [2, 3, 41] [] [
           ⟨some 37, .fad (.t 2) 15, none⟩,
           ⟨some 38, .ld false 1 (.t 37), none⟩,
           ⟨some 39, .fad (.t 3) 15, none⟩,
           ⟨some 40, .ld false 1 (.t 39), none⟩,
           ⟨some 41, .bin .neq (.t 38) (.t 40), none⟩] none)
         (.cond (.t 41) (.seq (.reg [4] [] [
             ⟨some 4, .mv (.c (.v false (.bool false))), none⟩] none)
           (.ret))
          (.skip)))
        (.seq (.seq (.reg [2, 3, 46] [] [
            ⟨some 42, .fad (.t 2) 16, none⟩,
            ⟨some 43, .ld false 1 (.t 42), none⟩,
            ⟨some 44, .fad (.t 3) 16, none⟩,
            ⟨some 45, .ld false 1 (.t 44), none⟩,
            ⟨some 46, .bin .neq (.t 43) (.t 45), none⟩] none)
          (.cond (.t 46) (.seq (.reg [4] [] [
              ⟨some 4, .mv (.c (.v false (.bool false))), none⟩] none)
            (.ret))
           (.skip)))
         (.seq (.seq (.reg [2, 3, 52] [] [
             ⟨some 47, .fad (.t 2) 17, none⟩,
             ⟨some 48, .ld false 1 (.t 47), none⟩,
             ⟨some 49, .fad (.t 3) 17, none⟩,
             ⟨some 50, .ld false 1 (.t 49), none⟩,
             ⟨some 51, .call 157 [] [(.t 48), (.t 50)], none⟩,
             ⟨some 52, .un .not (.t 51), none⟩] none)
           (.cond (.t 52) (.seq (.reg [4] [] [
               ⟨some 4, .mv (.c (.v false (.bool false))), none⟩] none)
             (.ret))
            (.skip)))
          (.seq (.seq (.reg [2, 3, 57] [] [
              ⟨some 53, .fad (.t 2) 18, none⟩,
              ⟨some 54, .ld false 1 (.t 53), none⟩,
              ⟨some 55, .fad (.t 3) 18, none⟩,
              ⟨some 56, .ld false 1 (.t 55), none⟩,
              ⟨some 57, .bin .neq (.t 54) (.t 56), none⟩] none)
            (.cond (.t 57) (.seq (.reg [4] [] [
                ⟨some 4, .mv (.c (.v false (.bool false))), none⟩] none)
              (.ret))
             (.skip)))
           (.seq (.seq (.reg [2, 3, 62] [] [
               ⟨some 58, .fad (.t 2) 19, none⟩,
               ⟨some 59, .ld false 1 (.t 58), none⟩,
               ⟨some 60, .fad (.t 3) 19, none⟩,
               ⟨some 61, .ld false 1 (.t 60), none⟩,
               ⟨some 62, .bin .neq (.t 59) (.t 61), none⟩] none)
             (.cond (.t 62) (.seq (.reg [4] [] [
                 ⟨some 4, .mv (.c (.v false (.bool false))), none⟩] none)
               (.ret))
              (.skip)))
            (.seq (.seq (.reg [2, 3, 67] [] [
                ⟨some 63, .fad (.t 2) 20, none⟩,
                ⟨some 64, .ld false 1 (.t 63), none⟩,
                ⟨some 65, .fad (.t 3) 20, none⟩,
                ⟨some 66, .ld false 1 (.t 65), none⟩,
                ⟨some 67, .bin .neq (.t 64) (.t 66), none⟩] none)
              (.cond (.t 67) (.seq (.reg [4] [] [
                  ⟨some 4, .mv (.c (.v false (.bool false))), none⟩] none)
                (.ret))
               (.skip)))
             (.seq (.seq (.reg [2, 3, 72] [] [
                 ⟨some 68, .fad (.t 2) 21, none⟩,
                 ⟨some 69, .ld false 1 (.t 68), none⟩,
                 ⟨some 70, .fad (.t 3) 21, none⟩,
                 ⟨some 71, .ld false 1 (.t 70), none⟩,
                 ⟨some 72, .bin .neq (.t 69) (.t 71), none⟩] none)
               (.cond (.t 72) (.seq (.reg [4] [] [
                   ⟨some 4, .mv (.c (.v false (.bool false))), none⟩] none)
                 (.ret))
                (.skip)))
              (.seq (.seq (.reg [2, 3, 77] [] [
                  ⟨some 73, .fad (.t 2) 22, none⟩,
                  ⟨some 74, .ld false 1 (.t 73), none⟩,
                  ⟨some 75, .fad (.t 3) 22, none⟩,
                  ⟨some 76, .ld false 1 (.t 75), none⟩,
                  ⟨some 77, .bin .neq (.t 74) (.t 76), none⟩] none)
                (.cond (.t 77) (.seq (.reg [4] [] [
                    ⟨some 4, .mv (.c (.v false (.bool false))), none⟩] none)
                  (.ret))
                 (.skip)))
               (.seq (.seq (.reg [2, 3, 82] [] [
                   ⟨some 78, .fad (.t 2) 23, none⟩,
                   ⟨some 79, .ld false 1 (.t 78), none⟩,
                   ⟨some 80, .fad (.t 3) 23, none⟩,
                   ⟨some 81, .ld false 1 (.t 80), none⟩,
                   ⟨some 82, .eqb true (.t 79) (.t 81), none⟩] none)
                 (.cond (.t 82) (.seq (.reg [4] [] [
                     ⟨some 4, .mv (.c (.v false (.bool false))), none⟩] none)
                   (.ret))
                  (.skip)))
                (.seq (.seq (.reg [88] [] [
                    ⟨some 83, .fad (.t 2) 24, none⟩,
                    ⟨some 84, .ld false 1 (.t 83), none⟩,
                    ⟨some 85, .fad (.t 3) 24, none⟩,
                    ⟨some 86, .ld false 1 (.t 85), none⟩,
                    ⟨some 87, .call 160 [] [(.t 84), (.t 86)], none⟩,
                    ⟨some 88, .un .not (.t 87), none⟩] none)
                  (.cond (.t 88) (.seq (.reg [4] [] [
                      ⟨some 4, .mv (.c (.v false (.bool false))), none⟩] none)
                    (.ret))
                   (.skip)))
                 (.seq (.reg [4] [] [
                    ⟨some 4, .mv (.c (.v false (.bool true))), none⟩] none)
                  (.ret))))))))))))))))))

def pf163 : PF := ⟨[.s 4], [], pb163⟩

-- loop.example/g00496/laws.eqVal
def pb165 : PC :=
.seq (.reg [2, 3] [] [
   ⟨some 2, .box 3 (.t 0), none⟩,
   ⟨some 3, .box 3 (.t 1), none⟩,
   ⟨some 4, .mv (.c (.v false (.bool false))), none⟩] none)
 (.seq (.seq (.reg [2, 3, 9] [] [
     ⟨some 5, .fad (.t 2) 0, none⟩,
     ⟨some 6, .ld false 1 (.t 5), none⟩,
     ⟨some 7, .fad (.t 3) 0, none⟩,
     ⟨some 8, .ld false 1 (.t 7), none⟩,
     ⟨some 9, .bin .neq (.t 6) (.t 8), none⟩] none)
   (.cond (.t 9) (.seq (.reg [4] [] [
       ⟨some 4, .mv (.c (.v false (.bool false))), none⟩] none)
     (.ret))
    (.skip)))
  (.seq (.seq (.reg [2, 3, 14] [] [
      ⟨some 10, .fad (.t 2) 1, none⟩,
      ⟨some 11, .ld false 1 (.t 10), none⟩,
      ⟨some 12, .fad (.t 3) 1, none⟩,
      ⟨some 13, .ld false 1 (.t 12), none⟩,
      ⟨some 14, .bin .neq (.t 11) (.t 13), none⟩] none)
    (.cond (.t 14) (.seq (.reg [4] [] [
        ⟨some 4, .mv (.c (.v false (.bool false))), none⟩] none)
      (.ret))
     (.skip)))
   (.seq (.seq (.reg [19] [] [
       ⟨some 15, .fad (.t 2) 2, none⟩,
       ⟨some 16, .ld false 1 (.t 15), none⟩,
       ⟨some 17, .fad (.t 3) 2, none⟩,
       ⟨some 18, .ld false 1 (.t 17), none⟩,
       ⟨some 19, .bin .neq (.t 16) (.t 18), none⟩] none)
     (.cond (.t 19) (.seq (.reg [4] [] [
         ⟨some 4, .mv (.c (.v false (.bool false))), none⟩] none)
       (.ret))
      (.skip)))
    (.seq (.reg [4] [] [
       ⟨some 4, .mv (.c (.v false (.bool true))), none⟩] none)
     (.ret)))))

def pf165 : PF := ⟨[.s 4], [], pb165⟩

-- loop.example/g00496/laws.eqValS
def pl166_0 : PC :=
.seq (.seq (.reg [0, 1, 5, 14] [] [
          ⟨some 11, .mv (.t 5), none⟩,
          ⟨some 12, .mv (.t 0), none⟩,
          ⟨some 13, .len (.t 12), none⟩,
          ⟨some 14, .bin .lss (.t 11) (.t 13), none⟩] none)
        (.cond (.t 14) (.skip)
         (.exit 0)))
       (.seq (.blk 1 (.seq (.reg [0, 1, 5, 26] [] [
            ⟨some 17, .mv (.t 0), none⟩,
            ⟨some 18, .mv (.t 5), none⟩,
            ⟨some 19, .iad 3 (.t 17) (.t 18), none⟩,
            ⟨some 20, .ld true 3 (.t 19), none⟩,
            ⟨some 21, .mv (.t 1), none⟩,
            ⟨some 22, .mv (.t 5), none⟩,
            ⟨some 23, .iad 3 (.t 21) (.t 22), none⟩,
            ⟨some 24, .ld true 3 (.t 23), none⟩,
            ⟨some 25, .call 165 [] [(.t 20), (.t 24)], none⟩,
            ⟨some 26, .un .not (.t 25), none⟩] (some []))
          (.cond (.t 26) (.seq (.reg [4] [] [
              ⟨some 4, .mv (.c (.v false (.bool false))), none⟩] none)
            (.ret))
           (.skip))))
        (.reg [0, 1, 5] [] [
          ⟨some 15, .mv (.t 5), none⟩,
          ⟨some 16, .bin .add (.t 15) (.c (.v false (.int .i64 1))), none⟩,
          ⟨some 5, .mv (.t 16), none⟩] none))

def pb166 : PC :=
.seq (.reg [0, 1] [] [
   ⟨some 4, .mv (.c (.v false (.bool false))), none⟩] none)
 (.seq (.seq (.reg [0, 1, 10] [] [
     ⟨some 6, .mv (.t 0), none⟩,
     ⟨some 7, .len (.t 6), none⟩,
     ⟨some 8, .mv (.t 1), none⟩,
     ⟨some 9, .len (.t 8), none⟩,
     ⟨some 10, .bin .neq (.t 7) (.t 9), none⟩] none)
   (.cond (.t 10) (.seq (.reg [4] [] [
       ⟨some 4, .mv (.c (.v false (.bool false))), none⟩] none)
     (.ret))
    (.skip)))
  (.seq (.seq (.reg [0, 1, 5] [] [
      ⟨some 5, .mv (.c (.v false (.int .i64 0))), none⟩] none)
    (.blk 0 (.loop pl166_0)))
   (.seq (.reg [4] [] [
      ⟨some 4, .mv (.c (.v false (.bool true))), none⟩] none)
    (.ret))))

def pf166 : PF := ⟨[.s 4], [], pb166⟩

-- loop.example/g00496/laws.szIntS
def pb219 : PC :=
.seq (.reg [0, 1] [] [
   ⟨some 4, .mv (.c (.v false (.int .i64 0))), none⟩] none)
 (.seq (.reg [1] [] [
    ⟨some 5, .mv (.t 1), none⟩,
    ⟨some 6, .mv (.t 0), none⟩,
    ⟨some 7, .len (.t 6), none⟩,
    ⟨some 8, .bin .sub (.t 5) (.t 7), none⟩,
    ⟨some 1, .mv (.t 8), none⟩] none)
  (.seq (.seq (.reg [1, 10] [] [
      ⟨some 9, .mv (.t 1), none⟩,
      ⟨some 10, .bin .lss (.t 9) (.c (.v false (.int .i64 0))), none⟩] none)
    (.cond (.t 10) (.seq (.reg [4] [] [
        ⟨some 4, .mv (.c (.v false (.int .i64 (-1)))), none⟩] none)
      (.ret))
     (.skip)))
   (.seq (.reg [4] [] [
      ⟨some 11, .mv (.t 1), none⟩,
      ⟨some 4, .mv (.t 11), none⟩] none)
    (.ret))))

def pf219 : PF := ⟨[.s 4], [], pb219⟩

-- loop.example/g00496/laws.szPred
def pb220 : PC :=
.seq (.reg [1, 2] [] [
   ⟨some 2, .box 7 (.t 0), none⟩,
   ⟨some 4, .mv (.c (.v false (.int .i64 0))), none⟩] none)
 (.seq (.reg [1, 2] [(8, 1)] [
    ⟨some 5, .fad (.t 2) 3, none⟩,
    ⟨some 6, .ld true 3 (.t 5), none⟩,
    ⟨some 7, .mv (.t 1), none⟩,
    ⟨some 8, .call 231 [] [(.t 6), (.t 7)], none⟩,
    ⟨some 1, .mv (.t 8), none⟩] none)
  (.seq (.seq (.reg [1, 2, 10] [] [
      ⟨some 9, .mv (.t 1), none⟩,
      ⟨some 10, .bin .lss (.t 9) (.c (.v false (.int .i64 0))), none⟩] none)
    (.cond (.t 10) (.seq (.reg [4] [] [
        ⟨some 4, .mv (.c (.v false (.int .i64 (-1)))), none⟩] none)
      (.ret))
     (.skip)))
   (.seq (.reg [1] [(14, 1)] [
      ⟨some 11, .fad (.t 2) 6, none⟩,
      ⟨some 12, .ld false 1 (.t 11), none⟩,
      ⟨some 13, .mv (.t 1), none⟩,
      ⟨some 14, .call 221 [] [(.t 12), (.t 13)], none⟩,
      ⟨some 1, .mv (.t 14), none⟩] none)
    (.seq (.seq (.reg [1, 16] [] [
        ⟨some 15, .mv (.t 1), none⟩,
        ⟨some 16, .bin .lss (.t 15) (.c (.v false (.int .i64 0))), none⟩] none)
      (.cond (.t 16) (.seq (.reg [4] [] [
          ⟨some 4, .mv (.c (.v false (.int .i64 (-1)))), none⟩] none)
        (.ret))
       (.skip)))
     (.seq (.reg [1, 4] [] [
        ⟨some 17, .mv (.t 1), none⟩,
        ⟨some 4, .mv (.t 17), none⟩] none)
      (.ret))))))

def pf220 : PF := ⟨[.s 4], [], pb220⟩

-- loop.example/g00496/laws.szPredS
def pl221_0 : PC :=
.seq (.seq (.reg [0, 1, 5, 15] [] [
           ⟨some 12, .mv (.t 5), none⟩,
           ⟨some 13, .mv (.t 0), none⟩,
           ⟨some 14, .len (.t 13), none⟩,
           ⟨some 15, .bin .lss (.t 12) (.t 14), none⟩] none)
         (.cond (.t 15) (.skip)
          (.exit 0)))
        (.seq (.blk 1 (.seq (.reg [0, 1, 5] [(23, 1)] [
             ⟨some 18, .mv (.t 0), none⟩,
             ⟨some 19, .mv (.t 5), none⟩,
             ⟨some 20, .iad 7 (.t 18) (.t 19), none⟩,
             ⟨some 21, .ld true 7 (.t 20), none⟩,
             ⟨some 22, .mv (.t 1), none⟩,
             ⟨some 23, .call 220 [] [(.t 21), (.t 22)], none⟩,
             ⟨some 1, .mv (.t 23), none⟩] none)
           (.seq (.reg [0, 1, 5, 25] [] [
              ⟨some 24, .mv (.t 1), none⟩,
              ⟨some 25, .bin .lss (.t 24) (.c (.v false (.int .i64 0))), none⟩] none)
            (.cond (.t 25) (.seq (.reg [4] [] [
                ⟨some 4, .mv (.c (.v false (.int .i64 (-1)))), none⟩] none)
              (.ret))
             (.skip)))))
         (.reg [0, 1, 5] [] [
           ⟨some 16, .mv (.t 5), none⟩,
           ⟨some 17, .bin .add (.t 16) (.c (.v false (.int .i64 1))), none⟩,
           ⟨some 5, .mv (.t 17), none⟩] none))

def pb221 : PC :=
.seq (.reg [0, 1] [] [
   ⟨some 4, .mv (.c (.v false (.int .i64 0))), none⟩] none)
 (.seq (.reg [0, 1] [] [
    ⟨some 6, .mv (.t 1), none⟩,
    ⟨some 7, .mv (.t 0), none⟩,
    ⟨some 8, .len (.t 7), none⟩,
    ⟨some 9, .bin .sub (.t 6) (.t 8), none⟩,
    ⟨some 1, .mv (.t 9), none⟩] none)
  (.seq (.seq (.reg [0, 1, 11] [] [
      ⟨some 10, .mv (.t 1), none⟩,
      ⟨some 11, .bin .lss (.t 10) (.c (.v false (.int .i64 0))), none⟩] none)
    (.cond (.t 11) (.seq (.reg [4] [] [
        ⟨some 4, .mv (.c (.v false (.int .i64 (-1)))), none⟩] none)
      (.ret))
     (.skip)))
   (.seq (.seq (.reg [0, 1, 5] [] [
       ⟨some 5, .mv (.c (.v false (.int .i64 0))), none⟩] none)
     (.blk 0 (.loop pl221_0)))
    (.seq (.reg [1, 4] [] [
       ⟨some 26, .mv (.t 1), none⟩,
       ⟨some 4, .mv (.t 26), none⟩] none)
     (.ret)))))

def pf221 : PF := ⟨[.s 4], [], pb221⟩

-- loop.example/g00496/laws.szQuery
def pb222 : PC :=
.seq (.reg [1, 2] [] [
   ⟨some 2, .box 10 (.t 0), none⟩,
   ⟨some 4, .mv (.c (.v false (.int .i64 0))), none⟩] none)
 (.seq (.reg [1, 2] [(8, 1)] [
    ⟨some 5, .fad (.t 2) 1, none⟩,
    ⟨some 6, .ld true 7 (.t 5), none⟩,
    ⟨some 7, .mv (.t 1), none⟩,
    ⟨some 8, .call 220 [] [(.t 6), (.t 7)], none⟩,
    ⟨some 1, .mv (.t 8), none⟩] none)
  (.seq (.seq (.reg [1, 2, 10] [] [
      ⟨some 9, .mv (.t 1), none⟩,
      ⟨some 10, .bin .lss (.t 9) (.c (.v false (.int .i64 0))), none⟩] none)
    (.cond (.t 10) (.seq (.reg [4] [] [
        ⟨some 4, .mv (.c (.v false (.int .i64 (-1)))), none⟩] none)
      (.ret))
     (.skip)))
   (.seq (.reg [1] [(14, 1)] [
      ⟨some 11, .fad (.t 2) 9, none⟩,
      ⟨some 12, .ld false 1 (.t 11), none⟩,
      ⟨some 13, .mv (.t 1), none⟩,
      ⟨some 14, .call 219 [] [(.t 12), (.t 13)], none⟩,
      ⟨some 1, .mv (.t 14), none⟩] none)
    (.seq (.seq (.reg [1, 16] [] [
        ⟨some 15, .mv (.t 1), none⟩,
        ⟨some 16, .bin .lss (.t 15) (.c (.v false (.int .i64 0))), none⟩] none)
      (.cond (.t 16) (.seq (.reg [4] [] [
          ⟨some 4, .mv (.c (.v false (.int .i64 (-1)))), none⟩] none)
        (.ret))
       (.skip)))
     (.seq (.reg [1, 4] [] [
        ⟨some 17, .mv (.t 1), none⟩,
        ⟨some 4, .mv (.t 17), none⟩] none)
      (.ret))))))

def pf222 : PF := ⟨[.s 4], [], pb222⟩

-- loop.example/g00496/laws.szRefS
def pb223 : PC :=
.seq (.reg [0, 1] [] [
   ⟨some 4, .mv (.c (.v false (.int .i64 0))), none⟩] none)
 (.seq (.reg [1] [] [
    ⟨some 5, .mv (.t 1), none⟩,
    ⟨some 6, .mv (.t 0), none⟩,
    ⟨some 7, .len (.t 6), none⟩,
    ⟨some 8, .bin .sub (.t 5) (.t 7), none⟩,
    ⟨some 1, .mv (.t 8), none⟩] none)
  (.seq (.seq (.reg [1, 10] [] [
      ⟨some 9, .mv (.t 1), none⟩,
      ⟨some 10, .bin .lss (.t 9) (.c (.v false (.int .i64 0))), none⟩] none)
    (.cond (.t 10) (.seq (.reg [4] [] [
        ⟨some 4, .mv (.c (.v false (.int .i64 (-1)))), none⟩] none)
      (.ret))
     (.skip)))
   (.seq (.reg [4] [] [
      ⟨some 11, .mv (.t 1), none⟩,
      ⟨some 4, .mv (.t 11), none⟩] none)
    (.ret))))

def pf223 : PF := ⟨[.s 4], [], pb223⟩

-- loop.example/g00496/laws.szRow
def pb225 : PC :=
.seq (.reg [1, 2] [] [
   ⟨some 2, .box 2 (.t 0), none⟩,
   ⟨some 4, .mv (.c (.v false (.int .i64 0))), none⟩] none)
 (.seq (.reg [1] [(8, 1)] [
    ⟨some 5, .fad (.t 2) 1, none⟩,
    ⟨some 6, .ld false 1 (.t 5), none⟩,
    ⟨some 7, .mv (.t 1), none⟩,
    ⟨some 8, .call 232 [] [(.t 6), (.t 7)], none⟩,
    ⟨some 1, .mv (.t 8), none⟩] none)
  (.seq (.seq (.reg [1, 10] [] [
      ⟨some 9, .mv (.t 1), none⟩,
      ⟨some 10, .bin .lss (.t 9) (.c (.v false (.int .i64 0))), none⟩] none)
    (.cond (.t 10) (.seq (.reg [4] [] [
        ⟨some 4, .mv (.c (.v false (.int .i64 (-1)))), none⟩] none)
      (.ret))
     (.skip)))
   (.seq (.reg [1, 4] [] [
      ⟨some 11, .mv (.t 1), none⟩,
      ⟨some 4, .mv (.t 11), none⟩] none)
    (.ret))))

def pf225 : PF := ⟨[.s 4], [], pb225⟩

-- loop.example/g00496/laws.szRowS
def pl226_0 : PC :=
.seq (.seq (.reg [0, 1, 5, 15] [] [
           ⟨some 12, .mv (.t 5), none⟩,
           ⟨some 13, .mv (.t 0), none⟩,
           ⟨some 14, .len (.t 13), none⟩,
           ⟨some 15, .bin .lss (.t 12) (.t 14), none⟩] none)
         (.cond (.t 15) (.skip)
          (.exit 0)))
        (.seq (.blk 1 (.seq (.reg [0, 1, 5] [(23, 1)] [
             ⟨some 18, .mv (.t 0), none⟩,
             ⟨some 19, .mv (.t 5), none⟩,
             ⟨some 20, .iad 2 (.t 18) (.t 19), none⟩,
             ⟨some 21, .ld true 2 (.t 20), none⟩,
             ⟨some 22, .mv (.t 1), none⟩,
             ⟨some 23, .call 225 [] [(.t 21), (.t 22)], none⟩,
             ⟨some 1, .mv (.t 23), none⟩] none)
           (.seq (.reg [0, 1, 5, 25] [] [
              ⟨some 24, .mv (.t 1), none⟩,
              ⟨some 25, .bin .lss (.t 24) (.c (.v false (.int .i64 0))), none⟩] none)
            (.cond (.t 25) (.seq (.reg [4] [] [
                ⟨some 4, .mv (.c (.v false (.int .i64 (-1)))), none⟩] none)
              (.ret))
             (.skip)))))
         (.reg [0, 1, 5] [] [
           ⟨some 16, .mv (.t 5), none⟩,
           ⟨some 17, .bin .add (.t 16) (.c (.v false (.int .i64 1))), none⟩,
           ⟨some 5, .mv (.t 17), none⟩] none))

def pb226 : PC :=
.seq (.reg [0, 1] [] [
   ⟨some 4, .mv (.c (.v false (.int .i64 0))), none⟩] none)
 (.seq (.reg [0, 1] [] [
    ⟨some 6, .mv (.t 1), none⟩,
    ⟨some 7, .mv (.t 0), none⟩,
    ⟨some 8, .len (.t 7), none⟩,
    ⟨some 9, .bin .sub (.t 6) (.t 8), none⟩,
    ⟨some 1, .mv (.t 9), none⟩] none)
  (.seq (.seq (.reg [0, 1, 11] [] [
      ⟨some 10, .mv (.t 1), none⟩,
      ⟨some 11, .bin .lss (.t 10) (.c (.v false (.int .i64 0))), none⟩] none)
    (.cond (.t 11) (.seq (.reg [4] [] [
        ⟨some 4, .mv (.c (.v false (.int .i64 (-1)))), none⟩] none)
      (.ret))
     (.skip)))
   (.seq (.seq (.reg [0, 1, 5] [] [
       ⟨some 5, .mv (.c (.v false (.int .i64 0))), none⟩] none)
     (.blk 0 (.loop pl226_0)))
    (.seq (.reg [1, 4] [] [
       ⟨some 26, .mv (.t 1), none⟩,
       ⟨some 4, .mv (.t 26), none⟩] none)
     (.ret)))))

def pf226 : PF := ⟨[.s 4], [], pb226⟩

-- loop.example/g00496/laws.szTask
def pb229 : PC :=
.seq (.reg [1, 2] [] [
   ⟨some 2, .box 25 (.t 0), none⟩,
   ⟨some 4, .mv (.c (.v false (.int .i64 0))), none⟩] none)
 (.seq (.reg [1, 2] [(8, 1)] [
    ⟨some 5, .fad (.t 2) 3, none⟩,
    ⟨some 6, .ld false 1 (.t 5), none⟩,
    ⟨some 7, .mv (.t 1), none⟩,
    ⟨some 8, .call 232 [] [(.t 6), (.t 7)], none⟩,
    ⟨some 1, .mv (.t 8), none⟩] none)
  (.seq (.seq (.reg [1, 2, 10] [] [
      ⟨some 9, .mv (.t 1), none⟩,
      ⟨some 10, .bin .lss (.t 9) (.c (.v false (.int .i64 0))), none⟩] none)
    (.cond (.t 10) (.seq (.reg [4] [] [
        ⟨some 4, .mv (.c (.v false (.int .i64 (-1)))), none⟩] none)
      (.ret))
     (.skip)))
   (.seq (.reg [1, 2] [(14, 1)] [
      ⟨some 11, .fad (.t 2) 5, none⟩,
      ⟨some 12, .ld true 10 (.t 11), none⟩,
      ⟨some 13, .mv (.t 1), none⟩,
      ⟨some 14, .call 222 [] [(.t 12), (.t 13)], none⟩,
      ⟨some 1, .mv (.t 14), none⟩] none)
    (.seq (.seq (.reg [1, 2, 16] [] [
        ⟨some 15, .mv (.t 1), none⟩,
        ⟨some 16, .bin .lss (.t 15) (.c (.v false (.int .i64 0))), none⟩] none)
      (.cond (.t 16) (.seq (.reg [4] [] [
          ⟨some 4, .mv (.c (.v false (.int .i64 (-1)))), none⟩] none)
        (.ret))
       (.skip)))
     (.seq (.reg [1, 2] [(20, 1)] [
        ⟨some 17, .fad (.t 2) 17, none⟩,
        ⟨some 18, .ld false 1 (.t 17), none⟩,
        ⟨some 19, .mv (.t 1), none⟩,
        ⟨some 20, .call 223 [] [(.t 18), (.t 19)], none⟩,
        ⟨some 1, .mv (.t 20), none⟩] none)
      (.seq (.seq (.reg [1, 2, 22] [] [
          ⟨some 21, .mv (.t 1), none⟩,
          ⟨some 22, .bin .lss (.t 21) (.c (.v false (.int .i64 0))), none⟩] none)
        (.cond (.t 22) (.seq (.reg [4] [] [
            ⟨some 4, .mv (.c (.v false (.int .i64 (-1)))), none⟩] none)
          (.ret))
         (.skip)))
       (.seq (.reg [1] [(26, 1)] [
          ⟨some 23, .fad (.t 2) 24, none⟩,
          ⟨some 24, .ld false 1 (.t 23), none⟩,
          ⟨some 25, .mv (.t 1), none⟩,
          ⟨some 26, .call 226 [] [(.t 24), (.t 25)], none⟩,
          ⟨some 1, .mv (.t 26), none⟩] none)
        (.seq (.seq (.reg [1, 28] [] [
            ⟨some 27, .mv (.t 1), none⟩,
            ⟨some 28, .bin .lss (.t 27) (.c (.v false (.int .i64 0))), none⟩] none)
          (.cond (.t 28) (.seq (.reg [4] [] [
              ⟨some 4, .mv (.c (.v false (.int .i64 (-1)))), none⟩] none)
            (.ret))
           (.skip)))
         (.seq (.reg [1, 4] [] [
            ⟨some 29, .mv (.t 1), none⟩,
            ⟨some 4, .mv (.t 29), none⟩] none)
          (.ret))))))))))

def pf229 : PF := ⟨[.s 4], [], pb229⟩

-- loop.example/g00496/laws.szVal
def pb231 : PC :=
.seq (.reg [1, 2] [] [
   ⟨some 2, .box 3 (.t 0), none⟩,
   ⟨some 4, .mv (.c (.v false (.int .i64 0))), none⟩] none)
 (.seq (.reg [1] [] [
    ⟨some 5, .mv (.t 1), none⟩,
    ⟨some 6, .fad (.t 2) 2, none⟩,
    ⟨some 7, .ld false 1 (.t 6), none⟩,
    ⟨some 8, .lens (.t 7), none⟩,
    ⟨some 9, .bin .sub (.t 5) (.t 8), none⟩,
    ⟨some 1, .mv (.t 9), none⟩] none)
  (.seq (.seq (.reg [1, 11] [] [
      ⟨some 10, .mv (.t 1), none⟩,
      ⟨some 11, .bin .lss (.t 10) (.c (.v false (.int .i64 0))), none⟩] none)
    (.cond (.t 11) (.seq (.reg [4] [] [
        ⟨some 4, .mv (.c (.v false (.int .i64 (-1)))), none⟩] none)
      (.ret))
     (.skip)))
   (.seq (.reg [4] [] [
      ⟨some 12, .mv (.t 1), none⟩,
      ⟨some 4, .mv (.t 12), none⟩] none)
    (.ret))))

def pf231 : PF := ⟨[.s 4], [], pb231⟩

-- loop.example/g00496/laws.szValS
def pl232_0 : PC :=
.seq (.seq (.reg [0, 1, 5, 15] [] [
           ⟨some 12, .mv (.t 5), none⟩,
           ⟨some 13, .mv (.t 0), none⟩,
           ⟨some 14, .len (.t 13), none⟩,
           ⟨some 15, .bin .lss (.t 12) (.t 14), none⟩] none)
         (.cond (.t 15) (.skip)
          (.exit 0)))
        (.seq (.blk 1 (.seq (.reg [0, 1, 5] [(23, 1)] [
             ⟨some 18, .mv (.t 0), none⟩,
             ⟨some 19, .mv (.t 5), none⟩,
             ⟨some 20, .iad 3 (.t 18) (.t 19), none⟩,
             ⟨some 21, .ld true 3 (.t 20), none⟩,
             ⟨some 22, .mv (.t 1), none⟩,
             ⟨some 23, .call 231 [] [(.t 21), (.t 22)], none⟩,
             ⟨some 1, .mv (.t 23), none⟩] none)
           (.seq (.reg [0, 1, 5, 25] [] [
              ⟨some 24, .mv (.t 1), none⟩,
              ⟨some 25, .bin .lss (.t 24) (.c (.v false (.int .i64 0))), none⟩] none)
            (.cond (.t 25) (.seq (.reg [4] [] [
                ⟨some 4, .mv (.c (.v false (.int .i64 (-1)))), none⟩] none)
              (.ret))
             (.skip)))))
         (.reg [0, 1, 5] [] [
           ⟨some 16, .mv (.t 5), none⟩,
           ⟨some 17, .bin .add (.t 16) (.c (.v false (.int .i64 1))), none⟩,
           ⟨some 5, .mv (.t 17), none⟩] none))

def pb232 : PC :=
.seq (.reg [0, 1] [] [
   ⟨some 4, .mv (.c (.v false (.int .i64 0))), none⟩] none)
 (.seq (.reg [0, 1] [] [
    ⟨some 6, .mv (.t 1), none⟩,
    ⟨some 7, .mv (.t 0), none⟩,
    ⟨some 8, .len (.t 7), none⟩,
    ⟨some 9, .bin .sub (.t 6) (.t 8), none⟩,
    ⟨some 1, .mv (.t 9), none⟩] none)
  (.seq (.seq (.reg [0, 1, 11] [] [
      ⟨some 10, .mv (.t 1), none⟩,
      ⟨some 11, .bin .lss (.t 10) (.c (.v false (.int .i64 0))), none⟩] none)
    (.cond (.t 11) (.seq (.reg [4] [] [
        ⟨some 4, .mv (.c (.v false (.int .i64 (-1)))), none⟩] none)
      (.ret))
     (.skip)))
   (.seq (.seq (.reg [0, 1, 5] [] [
       ⟨some 5, .mv (.c (.v false (.int .i64 0))), none⟩] none)
     (.blk 0 (.loop pl232_0)))
    (.seq (.reg [1, 4] [] [
       ⟨some 26, .mv (.t 1), none⟩,
       ⟨some 4, .mv (.t 26), none⟩] none)
     (.ret)))))

def pf232 : PF := ⟨[.s 4], [], pb232⟩

-- loop.example/g00496/laws.toIntS
def pl244_0 : PC :=
.seq (.seq (.reg [0, 3, 4, 11] [] [
          ⟨some 8, .mv (.t 4), none⟩,
          ⟨some 9, .mv (.t 0), none⟩,
          ⟨some 10, .len (.t 9), none⟩,
          ⟨some 11, .bin .lss (.t 8) (.t 10), none⟩] none)
        (.cond (.t 11) (.skip)
         (.exit 0)))
       (.seq (.blk 1 (.reg [0, 3, 4] [] [
           ⟨some 14, .mv (.t 3), none⟩,
           ⟨some 15, .mv (.t 4), none⟩,
           ⟨some 16, .mv (.t 0), none⟩,
           ⟨some 17, .mv (.t 4), none⟩,
           ⟨some 18, .iad 1 (.t 16) (.t 17), none⟩,
           ⟨some 19, .ld false 1 (.t 18), none⟩,
           ⟨some 20, .iad 1 (.t 14) (.t 15), none⟩,
           ⟨none, .st 1 (.t 20) (.t 19), none⟩] none))
        (.reg [0, 3, 4] [] [
          ⟨some 12, .mv (.t 4), none⟩,
          ⟨some 13, .bin .add (.t 12) (.c (.v false (.int .i64 1))), none⟩,
          ⟨some 4, .mv (.t 13), none⟩] none))

def pb244 : PC :=
.seq (.reg [0] [] [
   ⟨some 2, .mv (.c (.nl 1)), none⟩] none)
 (.seq (.reg [0, 3] [(7, 3)] [
    ⟨some 5, .mv (.t 0), none⟩,
    ⟨some 6, .len (.t 5), none⟩,
    ⟨some 7, .mks 1 8 [.int .i64 0] (.t 6), none⟩,
    ⟨some 3, .mv (.t 7), none⟩] none)
  (.seq (.seq (.reg [0, 3, 4] [] [
      ⟨some 4, .mv (.c (.v false (.int .i64 0))), none⟩] none)
    (.blk 0 (.loop pl244_0)))
   (.seq (.reg [2, 3] [] [
      ⟨some 21, .mv (.t 3), none⟩,
      ⟨some 2, .mv (.t 21), none⟩] none)
    (.ret))))

def pf244 : PF := ⟨[.s 2], [], pb244⟩

-- loop.example/g00496/laws.toPred
def pb245 : PC :=
.seq (.reg [1, 2] [] [
   ⟨some 1, .box 7 (.t 0), none⟩,
   ⟨some 2, .alloc [(.v false (.int .i64 0)), (.v false (.int .i64 0)), (.v false (.int .i64 0)), (.v false (.int .i64 0)), (.v false (.int .i64 0)), (.v false (.str ⟨#[]⟩)), (.nl 7)], none⟩] none)
 (.seq (.reg [1, 2, 3] [] [
    ⟨some 3, .alloc [(.v false (.int .i64 0)), (.v false (.int .i64 0)), (.v false (.int .i64 0)), (.v false (.int .i64 0)), (.v false (.int .i64 0)), (.v false (.str ⟨#[]⟩)), (.nl 7)], none⟩] none)
  (.seq (.reg [1, 2, 3] [] [
     ⟨some 4, .fad (.t 1) 0, none⟩,
     ⟨some 5, .ld false 1 (.t 4), none⟩,
     ⟨some 6, .fad (.t 3) 0, none⟩,
     ⟨none, .st 1 (.t 6) (.t 5), none⟩] none)
   (.seq (.reg [1, 2, 3] [] [
      ⟨some 7, .fad (.t 1) 1, none⟩,
      ⟨some 8, .ld false 1 (.t 7), none⟩,
      ⟨some 9, .fad (.t 3) 1, none⟩,
      ⟨none, .st 1 (.t 9) (.t 8), none⟩] none)
    (.seq (.reg [1, 2, 3] [] [
       ⟨some 10, .fad (.t 1) 2, none⟩,
       ⟨some 11, .ld false 1 (.t 10), none⟩,
       ⟨some 12, .fad (.t 3) 2, none⟩,
       ⟨none, .st 1 (.t 12) (.t 11), none⟩] none)
     (.seq (.reg [1, 2, 3] [] [
        ⟨some 13, .fad (.t 1) 3, none⟩,
        ⟨some 14, .ld true 3 (.t 13), none⟩,
        ⟨some 15, .call 257 [] [(.t 14)], none⟩,
        ⟨some 16, .fad (.t 3) 3, none⟩,
        ⟨none, .st 3 (.t 16) (.t 15), none⟩] none)
      (.seq (.reg [2, 3] [] [
         ⟨some 17, .fad (.t 1) 6, none⟩,
         ⟨some 18, .ld false 1 (.t 17), none⟩,
         ⟨some 19, .call 246 [] [(.t 18)], none⟩,
         ⟨some 20, .fad (.t 3) 6, none⟩,
         ⟨none, .st 1 (.t 20) (.t 19), none⟩] none)
       (.seq (.reg [2] [] [
          ⟨some 21, .ld true 7 (.t 3), none⟩,
          ⟨none, .st 7 (.t 2) (.t 21), none⟩] none)
        (.ret))))))))

def pf245 : PF := ⟨[.b 2 7 true], [], pb245⟩

-- loop.example/g00496/laws.toPredS
def pl246_0 : PC :=
.seq (.seq (.reg [0, 3, 4, 11] [] [
          ⟨some 8, .mv (.t 4), none⟩,
          ⟨some 9, .mv (.t 0), none⟩,
          ⟨some 10, .len (.t 9), none⟩,
          ⟨some 11, .bin .lss (.t 8) (.t 10), none⟩] none)
        (.cond (.t 11) (.skip)
         (.exit 0)))
       (.seq (.blk 1 (.reg [0, 3, 4] [] [
           ⟨some 14, .mv (.t 3), none⟩,
           ⟨some 15, .mv (.t 4), none⟩,
           ⟨some 16, .mv (.t 0), none⟩,
           ⟨some 17, .mv (.t 4), none⟩,
           ⟨some 18, .iad 7 (.t 16) (.t 17), none⟩,
           ⟨some 19, .ld true 7 (.t 18), none⟩,
           ⟨some 20, .call 245 [] [(.t 19)], none⟩,
           ⟨some 21, .iad 7 (.t 14) (.t 15), none⟩,
           ⟨none, .st 7 (.t 21) (.t 20), none⟩] none))
        (.reg [0, 3, 4] [] [
          ⟨some 12, .mv (.t 4), none⟩,
          ⟨some 13, .bin .add (.t 12) (.c (.v false (.int .i64 1))), none⟩,
          ⟨some 4, .mv (.t 13), none⟩] none))

def pb246 : PC :=
.seq (.reg [0] [] [
   ⟨some 2, .mv (.c (.nl 7)), none⟩] none)
 (.seq (.reg [0, 3] [(7, 3)] [
    ⟨some 5, .mv (.t 0), none⟩,
    ⟨some 6, .len (.t 5), none⟩,
    ⟨some 7, .mks 7 80 [.int .i64 0, .int .i64 0, .int .i64 0, .int .i64 0, .int .i64 0, .str ⟨#[]⟩, .sl 7 []] (.t 6), none⟩,
    ⟨some 3, .mv (.t 7), none⟩] none)
  (.seq (.seq (.reg [0, 3, 4] [] [
      ⟨some 4, .mv (.c (.v false (.int .i64 0))), none⟩] none)
    (.blk 0 (.loop pl246_0)))
   (.seq (.reg [2, 3] [] [
      ⟨some 22, .mv (.t 3), none⟩,
      ⟨some 2, .mv (.t 22), none⟩] none)
    (.ret))))

def pf246 : PF := ⟨[.s 2], [], pb246⟩

-- loop.example/g00496/laws.toQuery
def pb247 : PC :=
.seq (.reg [1, 2] [] [
   ⟨some 1, .box 10 (.t 0), none⟩,
   ⟨some 2, .alloc [(.v false (.int .i64 0)), (.v false (.int .i64 0)), (.v false (.int .i64 0)), (.v false (.int .i64 0)), (.v false (.int .i64 0)), (.v false (.int .i64 0)), (.v false (.str ⟨#[]⟩)), (.nl 7), (.v false (.int .i64 0)), (.nl 1)], none⟩] none)
 (.seq (.reg [1, 2, 3] [] [
    ⟨some 3, .alloc [(.v false (.int .i64 0)), (.v false (.int .i64 0)), (.v false (.int .i64 0)), (.v false (.int .i64 0)), (.v false (.int .i64 0)), (.v false (.int .i64 0)), (.v false (.str ⟨#[]⟩)), (.nl 7), (.v false (.int .i64 0)), (.nl 1)], none⟩] none)
  (.seq (.reg [1, 2, 3] [] [
     ⟨some 4, .fad (.t 1) 0, none⟩,
     ⟨some 5, .ld false 1 (.t 4), none⟩,
     ⟨some 6, .fad (.t 3) 0, none⟩,
     ⟨none, .st 1 (.t 6) (.t 5), none⟩] none)
   (.seq (.reg [1, 2, 3] [] [
      ⟨some 7, .fad (.t 1) 1, none⟩,
      ⟨some 8, .ld true 7 (.t 7), none⟩,
      ⟨some 9, .call 245 [] [(.t 8)], none⟩,
      ⟨some 10, .fad (.t 3) 1, none⟩,
      ⟨none, .st 7 (.t 10) (.t 9), none⟩] none)
    (.seq (.reg [1, 2, 3] [] [
       ⟨some 11, .fad (.t 1) 8, none⟩,
       ⟨some 12, .ld false 1 (.t 11), none⟩,
       ⟨some 13, .fad (.t 3) 8, none⟩,
       ⟨none, .st 1 (.t 13) (.t 12), none⟩] none)
     (.seq (.reg [2, 3] [] [
        ⟨some 14, .fad (.t 1) 9, none⟩,
        ⟨some 15, .ld false 1 (.t 14), none⟩,
        ⟨some 16, .call 244 [] [(.t 15)], none⟩,
        ⟨some 17, .fad (.t 3) 9, none⟩,
        ⟨none, .st 1 (.t 17) (.t 16), none⟩] none)
      (.seq (.reg [2] [] [
         ⟨some 18, .ld true 10 (.t 3), none⟩,
         ⟨none, .st 10 (.t 2) (.t 18), none⟩] none)
       (.ret)))))))

def pf247 : PF := ⟨[.b 2 10 true], [], pb247⟩

-- loop.example/g00496/laws.toRef
def pb248 : PC :=
.seq (.reg [1, 2] [] [
   ⟨some 1, .box 5 (.t 0), none⟩,
   ⟨some 2, .alloc [(.v false (.int .i64 0)), (.v false (.int .i64 0)), (.v false (.int .i64 0)), (.v false (.int .i64 0)), (.v false (.int .i64 0))], none⟩] none)
 (.seq (.reg [1, 2, 3] [] [
    ⟨some 3, .alloc [(.v false (.int .i64 0)), (.v false (.int .i64 0)), (.v false (.int .i64 0)), (.v false (.int .i64 0)), (.v false (.int .i64 0))], none⟩] none)
  (.seq (.reg [1, 2, 3] [] [
     ⟨some 4, .fad (.t 1) 0, none⟩,
     ⟨some 5, .ld false 1 (.t 4), none⟩,
     ⟨some 6, .fad (.t 3) 0, none⟩,
     ⟨none, .st 1 (.t 6) (.t 5), none⟩] none)
   (.seq (.reg [1, 2, 3] [] [
      ⟨some 7, .fad (.t 1) 1, none⟩,
      ⟨some 8, .ld false 1 (.t 7), none⟩,
      ⟨some 9, .fad (.t 3) 1, none⟩,
      ⟨none, .st 1 (.t 9) (.t 8), none⟩] none)
    (.seq (.reg [1, 2, 3] [] [
       ⟨some 10, .fad (.t 1) 2, none⟩,
       ⟨some 11, .ld false 1 (.t 10), none⟩,
       ⟨some 12, .fad (.t 3) 2, none⟩,
       ⟨none, .st 1 (.t 12) (.t 11), none⟩] none)
     (.seq (.reg [1, 2, 3] [] [
        ⟨some 13, .fad (.t 1) 3, none⟩,
        ⟨some 14, .ld false 1 (.t 13), none⟩,
        ⟨some 15, .fad (.t 3) 3, none⟩,
        ⟨none, .st 1 (.t 15) (.t 14), none⟩] none)
      (.seq (.reg [2, 3] [] [
         ⟨some 16, .fad (.t 1) 4, none⟩,
         ⟨some 17, .ld false 1 (.t 16), none⟩,
         ⟨some 18, .fad (.t 3) 4, none⟩,
         ⟨none, .st 1 (.t 18) (.t 17), none⟩] none)
       (.seq (.reg [2] [] [
          ⟨some 19, .ld true 5 (.t 3), none⟩,
          ⟨none, .st 5 (.t 2) (.t 19), none⟩] none)
        (.ret))))))))

def pf248 : PF := ⟨[.b 2 5 true], [], pb248⟩

-- loop.example/g00496/laws.toRefS
def pl249_0 : PC :=
.seq (.seq (.reg [0, 3, 4, 11] [] [
          ⟨some 8, .mv (.t 4), none⟩,
          ⟨some 9, .mv (.t 0), none⟩,
          ⟨some 10, .len (.t 9), none⟩,
          ⟨some 11, .bin .lss (.t 8) (.t 10), none⟩] none)
        (.cond (.t 11) (.skip)
         (.exit 0)))
       (.seq (.blk 1 (.reg [0, 3, 4] [] [
           ⟨some 14, .mv (.t 3), none⟩,
           ⟨some 15, .mv (.t 4), none⟩,
           ⟨some 16, .mv (.t 0), none⟩,
           ⟨some 17, .mv (.t 4), none⟩,
           ⟨some 18, .iad 5 (.t 16) (.t 17), none⟩,
           ⟨some 19, .ld true 5 (.t 18), none⟩,
           ⟨some 20, .call 248 [] [(.t 19)], none⟩,
           ⟨some 21, .iad 5 (.t 14) (.t 15), none⟩,
           ⟨none, .st 5 (.t 21) (.t 20), none⟩] none))
        (.reg [0, 3, 4] [] [
          ⟨some 12, .mv (.t 4), none⟩,
          ⟨some 13, .bin .add (.t 12) (.c (.v false (.int .i64 1))), none⟩,
          ⟨some 4, .mv (.t 13), none⟩] none))

def pb249 : PC :=
.seq (.reg [0] [] [
   ⟨some 2, .mv (.c (.nl 5)), none⟩] none)
 (.seq (.reg [0, 3] [(7, 3)] [
    ⟨some 5, .mv (.t 0), none⟩,
    ⟨some 6, .len (.t 5), none⟩,
    ⟨some 7, .mks 5 40 [.int .i64 0, .int .i64 0, .int .i64 0, .int .i64 0, .int .i64 0] (.t 6), none⟩,
    ⟨some 3, .mv (.t 7), none⟩] none)
  (.seq (.seq (.reg [0, 3, 4] [] [
      ⟨some 4, .mv (.c (.v false (.int .i64 0))), none⟩] none)
    (.blk 0 (.loop pl249_0)))
   (.seq (.reg [2, 3] [] [
      ⟨some 22, .mv (.t 3), none⟩,
      ⟨some 2, .mv (.t 22), none⟩] none)
    (.ret))))

def pf249 : PF := ⟨[.s 2], [], pb249⟩

-- loop.example/g00496/laws.toRow
def pb251 : PC :=
.seq (.reg [1, 2] [] [
   ⟨some 1, .box 2 (.t 0), none⟩,
   ⟨some 2, .alloc [(.v false (.int .i64 0)), (.nl 3)], none⟩] none)
 (.seq (.reg [1, 2, 3] [] [
    ⟨some 3, .alloc [(.v false (.int .i64 0)), (.nl 3)], none⟩] none)
  (.seq (.reg [1, 2, 3] [] [
     ⟨some 4, .fad (.t 1) 0, none⟩,
     ⟨some 5, .ld false 1 (.t 4), none⟩,
     ⟨some 6, .fad (.t 3) 0, none⟩,
     ⟨none, .st 1 (.t 6) (.t 5), none⟩] none)
   (.seq (.reg [2, 3] [] [
      ⟨some 7, .fad (.t 1) 1, none⟩,
      ⟨some 8, .ld false 1 (.t 7), none⟩,
      ⟨some 9, .call 258 [] [(.t 8)], none⟩,
      ⟨some 10, .fad (.t 3) 1, none⟩,
      ⟨none, .st 1 (.t 10) (.t 9), none⟩] none)
    (.seq (.reg [2] [] [
       ⟨some 11, .ld true 2 (.t 3), none⟩,
       ⟨none, .st 2 (.t 2) (.t 11), none⟩] none)
     (.ret)))))

def pf251 : PF := ⟨[.b 2 2 true], [], pb251⟩

-- loop.example/g00496/laws.toRowS
def pl252_0 : PC :=
.seq (.seq (.reg [0, 3, 4, 11] [] [
          ⟨some 8, .mv (.t 4), none⟩,
          ⟨some 9, .mv (.t 0), none⟩,
          ⟨some 10, .len (.t 9), none⟩,
          ⟨some 11, .bin .lss (.t 8) (.t 10), none⟩] none)
        (.cond (.t 11) (.skip)
         (.exit 0)))
       (.seq (.blk 1 (.reg [0, 3, 4] [] [
           ⟨some 14, .mv (.t 3), none⟩,
           ⟨some 15, .mv (.t 4), none⟩,
           ⟨some 16, .mv (.t 0), none⟩,
           ⟨some 17, .mv (.t 4), none⟩,
           ⟨some 18, .iad 2 (.t 16) (.t 17), none⟩,
           ⟨some 19, .ld true 2 (.t 18), none⟩,
           ⟨some 20, .call 251 [] [(.t 19)], none⟩,
           ⟨some 21, .iad 2 (.t 14) (.t 15), none⟩,
           ⟨none, .st 2 (.t 21) (.t 20), none⟩] none))
        (.reg [0, 3, 4] [] [
          ⟨some 12, .mv (.t 4), none⟩,
          ⟨some 13, .bin .add (.t 12) (.c (.v false (.int .i64 1))), none⟩,
          ⟨some 4, .mv (.t 13), none⟩] none))

def pb252 : PC :=
.seq (.reg [0] [] [
   ⟨some 2, .mv (.c (.nl 2)), none⟩] none)
 (.seq (.reg [0, 3] [(7, 3)] [
    ⟨some 5, .mv (.t 0), none⟩,
    ⟨some 6, .len (.t 5), none⟩,
    ⟨some 7, .mks 2 32 [.int .i64 0, .sl 3 []] (.t 6), none⟩,
    ⟨some 3, .mv (.t 7), none⟩] none)
  (.seq (.seq (.reg [0, 3, 4] [] [
      ⟨some 4, .mv (.c (.v false (.int .i64 0))), none⟩] none)
    (.blk 0 (.loop pl252_0)))
   (.seq (.reg [2, 3] [] [
      ⟨some 22, .mv (.t 3), none⟩,
      ⟨some 2, .mv (.t 22), none⟩] none)
    (.ret))))

def pf252 : PF := ⟨[.s 2], [], pb252⟩

-- loop.example/g00496/laws.toTask
def pb255 : PC :=
.seq (.reg [1, 2] [] [
   ⟨some 1, .box 25 (.t 0), none⟩,
   ⟨some 2, .alloc [(.v false (.int .i64 0)), (.v false (.int .i64 0)), (.v false (.int .i64 0)), (.nl 3), (.v false (.int .i64 0)), (.v false (.int .i64 0)), (.v false (.int .i64 0)), (.v false (.int .i64 0)), (.v false (.int .i64 0)), (.v false (.int .i64 0)), (.v false (.int .i64 0)), (.v false (.str ⟨#[]⟩)), (.nl 7), (.v false (.int .i64 0)), (.nl 1), (.v false (.int .i64 0)), (.v false (.int .i64 0)), (.nl 5), (.v false (.int .i64 0)), (.v false (.int .i64 0)), (.v false (.int .i64 0)), (.v false (.int .i64 0)), (.v false (.int .i64 0)), (.v false (.bool false)), (.nl 2)], none⟩] none)
 (.seq (.reg [1, 2, 3] [] [
    ⟨some 3, .alloc [(.v false (.int .i64 0)), (.v false (.int .i64 0)), (.v false (.int .i64 0)), (.nl 3), (.v false (.int .i64 0)), (.v false (.int .i64 0)), (.v false (.int .i64 0)), (.v false (.int .i64 0)), (.v false (.int .i64 0)), (.v false (.int .i64 0)), (.v false (.int .i64 0)), (.v false (.str ⟨#[]⟩)), (.nl 7), (.v false (.int .i64 0)), (.nl 1), (.v false (.int .i64 0)), (.v false (.int .i64 0)), (.nl 5), (.v false (.int .i64 0)), (.v false (.int .i64 0)), (.v false (.int .i64 0)), (.v false (.int .i64 0)), (.v false (.int .i64 0)), (.v false (.bool false)), (.nl 2)], none⟩] none)
  (.seq (.reg [1, 2, 3] [] [
     ⟨some 4, .fad (.t 1) 0, none⟩,
     ⟨some 5, .ld false 1 (.t 4), none⟩,
     ⟨some 6, .fad (.t 3) 0, none⟩,
     ⟨none, .st 1 (.t 6) (.t 5), none⟩] none)
   (.seq (.reg [1, 2, 3] [] [
      ⟨some 7, .fad (.t 1) 1, none⟩,
      ⟨some 8, .ld false 1 (.t 7), none⟩,
      ⟨some 9, .fad (.t 3) 1, none⟩,
      ⟨none, .st 1 (.t 9) (.t 8), none⟩] none)
    (.seq (.reg [1, 2, 3] [] [
       ⟨some 10, .fad (.t 1) 2, none⟩,
       ⟨some 11, .ld false 1 (.t 10), none⟩,
       ⟨some 12, .fad (.t 3) 2, none⟩,
       ⟨none, .st 1 (.t 12) (.t 11), none⟩] none)
     (.seq (.reg [1, 2, 3] [] [
        ⟨some 13, .fad (.t 1) 3, none⟩,
        ⟨some 14, .ld false 1 (.t 13), none⟩,
        ⟨some 15, .call 258 [] [(.t 14)], none⟩,
        ⟨some 16, .fad (.t 3) 3, none⟩,
        ⟨none, .st 1 (.t 16) (.t 15), none⟩] none)
      (.seq (.reg [1, 2, 3] [] [
         ⟨some 17, .fad (.t 1) 4, none⟩,
         ⟨some 18, .ld false 1 (.t 17), none⟩,
         ⟨some 19, .fad (.t 3) 4, none⟩,
         ⟨none, .st 1 (.t 19) (.t 18), none⟩] none)
       (.seq (.reg [1, 2, 3] [] [
          ⟨some 20, .fad (.t 1) 5, none⟩,
          ⟨some 21, .ld true 10 (.t 20), none⟩,
          ⟨some 22, .call 247 [] [(.t 21)], none⟩,
          ⟨some 23, .fad (.t 3) 5, none⟩,
          ⟨none, .st 10 (.t 23) (.t 22), none⟩] none)
        (.seq (.reg [1, 2, 3] [] [
           ⟨some 24, .fad (.t 1) 15, none⟩,
           ⟨some 25, .ld false 1 (.t 24), none⟩,
           ⟨some 26, .fad (.t 3) 15, none⟩,
           ⟨none, .st 1 (.t 26) (.t 25), none⟩] none)
         (.seq (.reg [1, 2, 3] [] [
            ⟨some 27, .fad (.t 1) 16, none⟩,
            ⟨some 28, .ld false 1 (.t 27), none⟩,
            ⟨some 29, .fad (.t 3) 16, none⟩,
            ⟨none, .st 1 (.t 29) (.t 28), none⟩] none)
          (.seq (.reg [1, 2, 3] [] [
             ⟨some 30, .fad (.t 1) 17, none⟩,
             ⟨some 31, .ld false 1 (.t 30), none⟩,
             ⟨some 32, .call 249 [] [(.t 31)], none⟩,
             ⟨some 33, .fad (.t 3) 17, none⟩,
             ⟨none, .st 1 (.t 33) (.t 32), none⟩] none)
           (.seq (.reg [1, 2, 3] [] [
              ⟨some 34, .fad (.t 1) 18, none⟩,
              ⟨some 35, .ld false 1 (.t 34), none⟩,
              ⟨some 36, .fad (.t 3) 18, none⟩,
              ⟨none, .st 1 (.t 36) (.t 35), none⟩] none)
            (.seq (.reg [1, 2, 3] [] [
               ⟨some 37, .fad (.t 1) 19, none⟩,
               ⟨some 38, .ld false 1 (.t 37), none⟩,
               ⟨some 39, .fad (.t 3) 19, none⟩,
               ⟨none, .st 1 (.t 39) (.t 38), none⟩] none)
             (.seq (.reg [1, 2, 3] [] [
                ⟨some 40, .fad (.t 1) 20, none⟩,
                ⟨some 41, .ld false 1 (.t 40), none⟩,
                ⟨some 42, .fad (.t 3) 20, none⟩,
                ⟨none, .st 1 (.t 42) (.t 41), none⟩] none)
              (.seq (.reg [1, 2, 3] [] [
                 ⟨some 43, .fad (.t 1) 21, none⟩,
                 ⟨some 44, .ld false 1 (.t 43), none⟩,
                 ⟨some 45, .fad (.t 3) 21, none⟩,
                 ⟨none, .st 1 (.t 45) (.t 44), none⟩] none)
               (.seq (.reg [1, 2, 3] [] [
                  ⟨some 46, .fad (.t 1) 22, none⟩,
                  ⟨some 47, .ld false 1 (.t 46), none⟩,
                  ⟨some 48, .fad (.t 3) 22, none⟩,
                  ⟨none, .st 1 (.t 48) (.t 47), none⟩] none)
                (.seq (.reg [1, 2, 3] [] [
                   ⟨some 49, .fad (.t 1) 23, none⟩,
                   ⟨some 50, .ld false 1 (.t 49), none⟩,
                   ⟨some 51, .fad (.t 3) 23, none⟩,
                   ⟨none, .st 1 (.t 51) (.t 50), none⟩] none)
                 (.seq (.reg [2, 3] [] [
                    ⟨some 52, .fad (.t 1) 24, none⟩,
                    ⟨some 53, .ld false 1 (.t 52), none⟩,
                    ⟨some 54, .call 252 [] [(.t 53)], none⟩,
                    ⟨some 55, .fad (.t 3) 24, none⟩,
                    ⟨none, .st 1 (.t 55) (.t 54), none⟩] none)
                  (.seq (.reg [2] [] [
                     ⟨some 56, .ld true 25 (.t 3), none⟩,
                     ⟨none, .st 25 (.t 2) (.t 56), none⟩] none)
                   (.ret)))))))))))))))))))

def pf255 : PF := ⟨[.b 2 25 true], [], pb255⟩

-- loop.example/g00496/laws.toVal
def pb257 : PC :=
.seq (.reg [1, 2] [] [
   ⟨some 1, .box 3 (.t 0), none⟩,
   ⟨some 2, .alloc [(.v false (.int .i64 0)), (.v false (.int .i64 0)), (.v false (.str ⟨#[]⟩))], none⟩] none)
 (.seq (.reg [1, 2, 3] [] [
    ⟨some 3, .alloc [(.v false (.int .i64 0)), (.v false (.int .i64 0)), (.v false (.str ⟨#[]⟩))], none⟩] none)
  (.seq (.reg [1, 2, 3] [] [
     ⟨some 4, .fad (.t 1) 0, none⟩,
     ⟨some 5, .ld false 1 (.t 4), none⟩,
     ⟨some 6, .fad (.t 3) 0, none⟩,
     ⟨none, .st 1 (.t 6) (.t 5), none⟩] none)
   (.seq (.reg [1, 2, 3] [] [
      ⟨some 7, .fad (.t 1) 1, none⟩,
      ⟨some 8, .ld false 1 (.t 7), none⟩,
      ⟨some 9, .fad (.t 3) 1, none⟩,
      ⟨none, .st 1 (.t 9) (.t 8), none⟩] none)
    (.seq (.reg [2, 3] [] [
       ⟨some 10, .fad (.t 1) 2, none⟩,
       ⟨some 11, .ld false 1 (.t 10), none⟩,
       ⟨some 12, .fad (.t 3) 2, none⟩,
       ⟨none, .st 1 (.t 12) (.t 11), none⟩] none)
     (.seq (.reg [2] [] [
        ⟨some 13, .ld true 3 (.t 3), none⟩,
        ⟨none, .st 3 (.t 2) (.t 13), none⟩] none)
      (.ret))))))

def pf257 : PF := ⟨[.b 2 3 true], [], pb257⟩

-- loop.example/g00496/laws.toValS
def pl258_0 : PC :=
.seq (.seq (.reg [0, 3, 4, 11] [] [
          ⟨some 8, .mv (.t 4), none⟩,
          ⟨some 9, .mv (.t 0), none⟩,
          ⟨some 10, .len (.t 9), none⟩,
          ⟨some 11, .bin .lss (.t 8) (.t 10), none⟩] none)
        (.cond (.t 11) (.skip)
         (.exit 0)))
       (.seq (.blk 1 (.reg [0, 3, 4] [] [
           ⟨some 14, .mv (.t 3), none⟩,
           ⟨some 15, .mv (.t 4), none⟩,
           ⟨some 16, .mv (.t 0), none⟩,
           ⟨some 17, .mv (.t 4), none⟩,
           ⟨some 18, .iad 3 (.t 16) (.t 17), none⟩,
           ⟨some 19, .ld true 3 (.t 18), none⟩,
           ⟨some 20, .call 257 [] [(.t 19)], none⟩,
           ⟨some 21, .iad 3 (.t 14) (.t 15), none⟩,
           ⟨none, .st 3 (.t 21) (.t 20), none⟩] none))
        (.reg [0, 3, 4] [] [
          ⟨some 12, .mv (.t 4), none⟩,
          ⟨some 13, .bin .add (.t 12) (.c (.v false (.int .i64 1))), none⟩,
          ⟨some 4, .mv (.t 13), none⟩] none))

def pb258 : PC :=
.seq (.reg [0] [] [
   ⟨some 2, .mv (.c (.nl 3)), none⟩] none)
 (.seq (.reg [0, 3] [(7, 3)] [
    ⟨some 5, .mv (.t 0), none⟩,
    ⟨some 6, .len (.t 5), none⟩,
    ⟨some 7, .mks 3 32 [.int .i64 0, .int .i64 0, .str ⟨#[]⟩] (.t 6), none⟩,
    ⟨some 3, .mv (.t 7), none⟩] none)
  (.seq (.seq (.reg [0, 3, 4] [] [
      ⟨some 4, .mv (.c (.v false (.int .i64 0))), none⟩] none)
    (.blk 0 (.loop pl258_0)))
   (.seq (.reg [2, 3] [] [
      ⟨some 22, .mv (.t 3), none⟩,
      ⟨some 2, .mv (.t 22), none⟩] none)
    (.ret))))

def pf258 : PF := ⟨[.s 2], [], pb258⟩

-- loop.example/g00496/spec.TaskOk
def pl339_0 : PC :=
.seq (.seq (.reg [1, 2, 5, 70] [] [
          ⟨some 66, .mv (.t 5), none⟩,
          ⟨some 67, .fad (.t 2) 17, none⟩,
          ⟨some 68, .ld false 1 (.t 67), none⟩,
          ⟨some 69, .len (.t 68), none⟩,
          ⟨some 70, .bin .lss (.t 66) (.t 69), none⟩] none)
        (.cond (.t 70) (.skip)
         (.exit 0)))
       (.seq (.blk 1 (.seq (.reg [1, 2, 5, 88] [] [
            ⟨some 73, .fad (.t 2) 17, none⟩,
            ⟨some 74, .ld false 1 (.t 73), none⟩,
            ⟨some 75, .mv (.t 5), none⟩,
            ⟨some 76, .iad 5 (.t 74) (.t 75), none⟩,
            ⟨some 77, .ld true 5 (.t 76), none⟩,
            ⟨some 78, .call 370 [] [(.t 77)], none⟩,
            ⟨some 79, .un .not (.t 78), none⟩,
            ⟨some 80, .mv (.t 79), none⟩,
            ⟨some 81, .fad (.t 2) 17, some (80, false)⟩,
            ⟨some 82, .ld false 1 (.t 81), some (80, false)⟩,
            ⟨some 83, .mv (.t 5), some (80, false)⟩,
            ⟨some 84, .iad 5 (.t 82) (.t 83), some (80, false)⟩,
            ⟨some 85, .fad (.t 84) 3, some (80, false)⟩,
            ⟨some 86, .ld false 1 (.t 85), some (80, false)⟩,
            ⟨some 87, .bin .lss (.t 86) (.c (.v false (.int .i64 0))), some (80, false)⟩,
            ⟨some 88, .pick (.t 80) (.c (.v false (.bool true))) (.t 87), none⟩] none)
          (.cond (.t 88) (.seq (.reg [4] [] [
              ⟨some 4, .mv (.c (.v false (.bool false))), none⟩] none)
            (.ret))
           (.skip))))
        (.reg [1, 2, 5] [] [
          ⟨some 71, .mv (.t 5), none⟩,
          ⟨some 72, .bin .add (.t 71) (.c (.v false (.int .i64 1))), none⟩,
          ⟨some 5, .mv (.t 72), none⟩] none))

def pb339 : PC :=
.seq (.reg [1, 2] [] [
   ⟨some 2, .box 25 (.t 0), none⟩,
   ⟨some 4, .mv (.c (.v false (.bool false))), none⟩] none)
 (.seq (.seq (.reg [1, 2, 65] [] [
     ⟨some 6, .mv (.t 1), none⟩,
     ⟨some 7, .call 377 [] [(.t 6), (.c (.v false (.int .i64 0))), (.c (.v false (.int .i64 4)))], none⟩,
     ⟨some 8, .un .not (.t 7), none⟩,
     ⟨some 9, .mv (.t 8), none⟩,
     ⟨some 10, .fad (.t 2) 1, some (9, false)⟩,
     ⟨some 11, .ld false 1 (.t 10), some (9, false)⟩,
     ⟨some 12, .call 377 [] [(.t 11), (.c (.v false (.int .i64 0))), (.c (.v false (.int .i64 9)))], some (9, false)⟩,
     ⟨some 13, .un .not (.t 12), some (9, false)⟩,
     ⟨some 14, .pick (.t 9) (.c (.v false (.bool true))) (.t 13), none⟩,
     ⟨some 15, .mv (.t 14), none⟩,
     ⟨some 16, .fad (.t 2) 2, some (15, false)⟩,
     ⟨some 17, .ld false 1 (.t 16), some (15, false)⟩,
     ⟨some 18, .bin .lss (.t 17) (.c (.v false (.int .i64 0))), some (15, false)⟩,
     ⟨some 19, .pick (.t 15) (.c (.v false (.bool true))) (.t 18), none⟩,
     ⟨some 20, .mv (.t 19), none⟩,
     ⟨some 21, .fad (.t 2) 4, some (20, false)⟩,
     ⟨some 22, .ld false 1 (.t 21), some (20, false)⟩,
     ⟨some 23, .bin .lss (.t 22) (.c (.v false (.int .i64 0))), some (20, false)⟩,
     ⟨some 24, .pick (.t 20) (.c (.v false (.bool true))) (.t 23), none⟩,
     ⟨some 25, .mv (.t 24), none⟩,
     ⟨some 26, .fad (.t 2) 15, some (25, false)⟩,
     ⟨some 27, .ld false 1 (.t 26), some (25, false)⟩,
     ⟨some 28, .bin .lss (.t 27) (.c (.v false (.int .i64 0))), some (25, false)⟩,
     ⟨some 29, .pick (.t 25) (.c (.v false (.bool true))) (.t 28), none⟩,
     ⟨some 30, .mv (.t 29), none⟩,
     ⟨some 31, .fad (.t 2) 16, some (30, false)⟩,
     ⟨some 32, .ld false 1 (.t 31), some (30, false)⟩,
     ⟨some 33, .bin .lss (.t 32) (.c (.v false (.int .i64 0))), some (30, false)⟩,
     ⟨some 34, .pick (.t 30) (.c (.v false (.bool true))) (.t 33), none⟩,
     ⟨some 35, .mv (.t 34), none⟩,
     ⟨some 36, .fad (.t 2) 18, some (35, false)⟩,
     ⟨some 37, .ld false 1 (.t 36), some (35, false)⟩,
     ⟨some 38, .bin .lss (.t 37) (.c (.v false (.int .i64 0))), some (35, false)⟩,
     ⟨some 39, .pick (.t 35) (.c (.v false (.bool true))) (.t 38), none⟩,
     ⟨some 40, .mv (.t 39), none⟩,
     ⟨some 41, .fad (.t 2) 19, some (40, false)⟩,
     ⟨some 42, .ld false 1 (.t 41), some (40, false)⟩,
     ⟨some 43, .bin .lss (.t 42) (.c (.v false (.int .i64 0))), some (40, false)⟩,
     ⟨some 44, .pick (.t 40) (.c (.v false (.bool true))) (.t 43), none⟩,
     ⟨some 45, .mv (.t 44), none⟩,
     ⟨some 46, .fad (.t 2) 20, some (45, false)⟩,
     ⟨some 47, .ld false 1 (.t 46), some (45, false)⟩,
     ⟨some 48, .bin .lss (.t 47) (.c (.v false (.int .i64 0))), some (45, false)⟩,
     ⟨some 49, .pick (.t 45) (.c (.v false (.bool true))) (.t 48), none⟩,
     ⟨some 50, .mv (.t 49), none⟩,
     ⟨some 51, .fad (.t 2) 21, some (50, false)⟩,
     ⟨some 52, .ld false 1 (.t 51), some (50, false)⟩,
     ⟨some 53, .bin .lss (.t 52) (.c (.v false (.int .i64 0))), some (50, false)⟩,
     ⟨some 54, .pick (.t 50) (.c (.v false (.bool true))) (.t 53), none⟩,
     ⟨some 55, .mv (.t 54), none⟩,
     ⟨some 56, .fad (.t 2) 22, some (55, false)⟩,
     ⟨some 57, .ld false 1 (.t 56), some (55, false)⟩,
     ⟨some 58, .bin .lss (.t 57) (.c (.v false (.int .i64 0))), some (55, false)⟩,
     ⟨some 59, .pick (.t 55) (.c (.v false (.bool true))) (.t 58), none⟩,
     ⟨some 60, .mv (.t 59), none⟩,
     ⟨some 61, .fad (.t 2) 17, some (60, false)⟩,
     ⟨some 62, .ld false 1 (.t 61), some (60, false)⟩,
     ⟨some 63, .len (.t 62), some (60, false)⟩,
     ⟨some 64, .bin .gtr (.t 63) (.c (.v false (.int .i64 8))), some (60, false)⟩,
     ⟨some 65, .pick (.t 60) (.c (.v false (.bool true))) (.t 64), none⟩] none)
   (.cond (.t 65) (.seq (.reg [4] [] [
       ⟨some 4, .mv (.c (.v false (.bool false))), none⟩] none)
     (.ret))
    (.skip)))
  (.seq (.seq (.reg [1, 2, 5] [] [
      ⟨some 5, .mv (.c (.v false (.int .i64 0))), none⟩] none)
    (.blk 0 (.loop pl339_0)))
   (.seq (.seq (.reg [1, 2, 90] [] [
       ⟨some 89, .fad (.t 2) 0, none⟩,
       ⟨some 90, .ld false 1 (.t 89), none⟩] none)
     (.blk 2 (.seq (.reg [1, 2, 90, 91] [] [
         ⟨some 92, .bin .eql (.t 90) (.c (.v false (.int .i64 0))), none⟩,
         ⟨some 91, .mv (.t 92), none⟩] none)
       (.cond (.t 91) (.seq (.reg [4] [(94, 4)] [
           ⟨some 93, .ld true 25 (.t 2), none⟩,
           ⟨some 94, .call 372 [] [(.t 93)], none⟩,
           ⟨some 4, .mv (.t 94), none⟩] none)
         (.ret))
        (.seq (.seq (.reg [1, 2, 90, 95] [] [
            ⟨some 96, .bin .eql (.t 90) (.c (.v false (.int .i64 1))), none⟩,
            ⟨some 95, .mv (.t 96), none⟩] none)
          (.cond (.t 95) (.skip)
           (.reg [1, 2, 90, 95] [] [
             ⟨some 97, .bin .eql (.t 90) (.c (.v false (.int .i64 2))), none⟩,
             ⟨some 95, .mv (.t 97), none⟩] none)))
         (.cond (.t 95) (.seq (.reg [4] [] [
             ⟨some 98, .mv (.t 1), none⟩,
             ⟨some 99, .bin .lss (.t 98) (.c (.v false (.int .i64 3))), none⟩,
             ⟨some 4, .mv (.t 99), none⟩] none)
           (.ret))
          (.seq (.reg [1, 2, 100] [] [
             ⟨some 101, .bin .eql (.t 90) (.c (.v false (.int .i64 3))), none⟩,
             ⟨some 100, .mv (.t 101), none⟩] none)
           (.cond (.t 100) (.seq (.reg [4] [] [
               ⟨some 102, .mv (.t 1), none⟩,
               ⟨some 103, .bin .lss (.t 102) (.c (.v false (.int .i64 3))), none⟩,
               ⟨some 104, .mv (.t 103), none⟩,
               ⟨some 105, .fad (.t 2) 4, some (104, true)⟩,
               ⟨some 106, .ld false 1 (.t 105), some (104, true)⟩,
               ⟨some 107, .bin .eql (.t 106) (.c (.v false (.int .i64 0))), some (104, true)⟩,
               ⟨some 108, .pick (.t 104) (.t 107) (.c (.v false (.bool false))), none⟩,
               ⟨some 4, .mv (.t 108), none⟩] none)
             (.ret))
            (.skip)))))))))
    (.seq (.reg [4] [] [
       ⟨some 109, .fad (.t 2) 0, none⟩,
       ⟨some 110, .ld false 1 (.t 109), none⟩,
       ⟨some 111, .bin .eql (.t 110) (.c (.v false (.int .i64 4))), none⟩,
       ⟨some 112, .mv (.t 111), none⟩,
       ⟨some 113, .mv (.t 1), some (112, true)⟩,
       ⟨some 114, .bin .geq (.t 113) (.c (.v false (.int .i64 3))), some (112, true)⟩,
       ⟨some 115, .pick (.t 112) (.t 114) (.c (.v false (.bool false))), none⟩,
       ⟨some 116, .mv (.t 115), none⟩,
       ⟨some 117, .fad (.t 2) 4, some (116, true)⟩,
       ⟨some 118, .ld false 1 (.t 117), some (116, true)⟩,
       ⟨some 119, .bin .eql (.t 118) (.c (.v false (.int .i64 0))), some (116, true)⟩,
       ⟨some 120, .pick (.t 116) (.t 119) (.c (.v false (.bool false))), none⟩,
       ⟨some 4, .mv (.t 120), none⟩] none)
     (.ret)))))

def pf339 : PF := ⟨[.s 4], [], pb339⟩

-- loop.example/g00496/spec.l18RefOk
def pb370 : PC :=
.seq (.reg [1] [] [
   ⟨some 1, .box 5 (.t 0), none⟩,
   ⟨some 2, .mv (.c (.v false (.bool false))), none⟩] none)
 (.seq (.reg [2] [(14, 2)] [
    ⟨some 3, .fad (.t 1) 0, none⟩,
    ⟨some 4, .ld false 1 (.t 3), none⟩,
    ⟨some 5, .bin .geq (.t 4) (.c (.v false (.int .i64 0))), none⟩,
    ⟨some 6, .mv (.t 5), none⟩,
    ⟨some 7, .fad (.t 1) 1, some (6, true)⟩,
    ⟨some 8, .ld false 1 (.t 7), some (6, true)⟩,
    ⟨some 9, .bin .geq (.t 8) (.c (.v false (.int .i64 0))), some (6, true)⟩,
    ⟨some 10, .pick (.t 6) (.t 9) (.c (.v false (.bool false))), none⟩,
    ⟨some 11, .mv (.t 10), none⟩,
    ⟨some 12, .fad (.t 1) 2, some (11, true)⟩,
    ⟨some 13, .ld false 1 (.t 12), some (11, true)⟩,
    ⟨some 14, .call 377 [] [(.t 13), (.c (.v false (.int .i64 1))), (.c (.v false (.int .i64 2)))], some (11, true)⟩,
    ⟨some 15, .pick (.t 11) (.t 14) (.c (.v false (.bool false))), none⟩,
    ⟨some 16, .mv (.t 15), none⟩,
    ⟨some 17, .fad (.t 1) 4, some (16, true)⟩,
    ⟨some 18, .ld false 1 (.t 17), some (16, true)⟩,
    ⟨some 19, .bin .geq (.t 18) (.c (.v false (.int .i64 1))), some (16, true)⟩,
    ⟨some 20, .pick (.t 16) (.t 19) (.c (.v false (.bool false))), none⟩,
    ⟨some 21, .mv (.t 20), none⟩,
    ⟨some 22, .fad (.t 1) 4, some (21, true)⟩,
    ⟨some 23, .ld false 1 (.t 22), some (21, true)⟩,
    ⟨some 24, .bin .leq (.t 23) (.c (.v false (.int .i64 1000000000))), some (21, true)⟩,
    ⟨some 25, .pick (.t 21) (.t 24) (.c (.v false (.bool false))), none⟩,
    ⟨some 2, .mv (.t 25), none⟩] none)
  (.ret))

def pf370 : PF := ⟨[.s 2], [], pb370⟩

-- loop.example/g00496/spec.l19Bare
def pb372 : PC :=
.seq (.reg [1] [] [
   ⟨some 1, .box 25 (.t 0), none⟩,
   ⟨some 2, .mv (.c (.v false (.bool false))), none⟩] none)
 (.seq (.reg [2] [(25, 2)] [
    ⟨some 3, .fad (.t 1) 1, none⟩,
    ⟨some 4, .ld false 1 (.t 3), none⟩,
    ⟨some 5, .bin .eql (.t 4) (.c (.v false (.int .i64 0))), none⟩,
    ⟨some 6, .mv (.t 5), none⟩,
    ⟨some 7, .fad (.t 1) 2, some (6, true)⟩,
    ⟨some 8, .ld false 1 (.t 7), some (6, true)⟩,
    ⟨some 9, .bin .eql (.t 8) (.c (.v false (.int .i64 0))), some (6, true)⟩,
    ⟨some 10, .pick (.t 6) (.t 9) (.c (.v false (.bool false))), none⟩,
    ⟨some 11, .mv (.t 10), none⟩,
    ⟨some 12, .fad (.t 1) 3, some (11, true)⟩,
    ⟨some 13, .ld false 1 (.t 12), some (11, true)⟩,
    ⟨some 14, .len (.t 13), some (11, true)⟩,
    ⟨some 15, .bin .eql (.t 14) (.c (.v false (.int .i64 0))), some (11, true)⟩,
    ⟨some 16, .pick (.t 11) (.t 15) (.c (.v false (.bool false))), none⟩,
    ⟨some 17, .mv (.t 16), none⟩,
    ⟨some 18, .fad (.t 1) 4, some (17, true)⟩,
    ⟨some 19, .ld false 1 (.t 18), some (17, true)⟩,
    ⟨some 20, .bin .eql (.t 19) (.c (.v false (.int .i64 0))), some (17, true)⟩,
    ⟨some 21, .pick (.t 17) (.t 20) (.c (.v false (.bool false))), none⟩,
    ⟨some 22, .mv (.t 21), none⟩,
    ⟨some 23, .fad (.t 1) 5, some (22, true)⟩,
    ⟨some 24, .ld true 10 (.t 23), some (22, true)⟩,
    ⟨some 25, .call 374 [] [(.t 24)], some (22, true)⟩,
    ⟨some 26, .pick (.t 22) (.t 25) (.c (.v false (.bool false))), none⟩,
    ⟨some 27, .mv (.t 26), none⟩,
    ⟨some 28, .fad (.t 1) 15, some (27, true)⟩,
    ⟨some 29, .ld false 1 (.t 28), some (27, true)⟩,
    ⟨some 30, .bin .eql (.t 29) (.c (.v false (.int .i64 0))), some (27, true)⟩,
    ⟨some 31, .pick (.t 27) (.t 30) (.c (.v false (.bool false))), none⟩,
    ⟨some 32, .mv (.t 31), none⟩,
    ⟨some 33, .fad (.t 1) 16, some (32, true)⟩,
    ⟨some 34, .ld false 1 (.t 33), some (32, true)⟩,
    ⟨some 35, .bin .eql (.t 34) (.c (.v false (.int .i64 0))), some (32, true)⟩,
    ⟨some 36, .pick (.t 32) (.t 35) (.c (.v false (.bool false))), none⟩,
    ⟨some 37, .mv (.t 36), none⟩,
    ⟨some 38, .fad (.t 1) 17, some (37, true)⟩,
    ⟨some 39, .ld false 1 (.t 38), some (37, true)⟩,
    ⟨some 40, .len (.t 39), some (37, true)⟩,
    ⟨some 41, .bin .eql (.t 40) (.c (.v false (.int .i64 0))), some (37, true)⟩,
    ⟨some 42, .pick (.t 37) (.t 41) (.c (.v false (.bool false))), none⟩,
    ⟨some 43, .mv (.t 42), none⟩,
    ⟨some 44, .fad (.t 1) 18, some (43, true)⟩,
    ⟨some 45, .ld false 1 (.t 44), some (43, true)⟩,
    ⟨some 46, .bin .eql (.t 45) (.c (.v false (.int .i64 0))), some (43, true)⟩,
    ⟨some 47, .pick (.t 43) (.t 46) (.c (.v false (.bool false))), none⟩,
    ⟨some 48, .mv (.t 47), none⟩,
    ⟨some 49, .fad (.t 1) 19, some (48, true)⟩,
    ⟨some 50, .ld false 1 (.t 49), some (48, true)⟩,
    ⟨some 51, .bin .eql (.t 50) (.c (.v false (.int .i64 0))), some (48, true)⟩,
    ⟨some 52, .pick (.t 48) (.t 51) (.c (.v false (.bool false))), none⟩,
    ⟨some 53, .mv (.t 52), none⟩,
    ⟨some 54, .fad (.t 1) 20, some (53, true)⟩,
    ⟨some 55, .ld false 1 (.t 54), some (53, true)⟩,
    ⟨some 56, .bin .eql (.t 55) (.c (.v false (.int .i64 0))), some (53, true)⟩,
    ⟨some 57, .pick (.t 53) (.t 56) (.c (.v false (.bool false))), none⟩,
    ⟨some 58, .mv (.t 57), none⟩,
    ⟨some 59, .fad (.t 1) 21, some (58, true)⟩,
    ⟨some 60, .ld false 1 (.t 59), some (58, true)⟩,
    ⟨some 61, .bin .eql (.t 60) (.c (.v false (.int .i64 0))), some (58, true)⟩,
    ⟨some 62, .pick (.t 58) (.t 61) (.c (.v false (.bool false))), none⟩,
    ⟨some 63, .mv (.t 62), none⟩,
    ⟨some 64, .fad (.t 1) 22, some (63, true)⟩,
    ⟨some 65, .ld false 1 (.t 64), some (63, true)⟩,
    ⟨some 66, .bin .eql (.t 65) (.c (.v false (.int .i64 0))), some (63, true)⟩,
    ⟨some 67, .pick (.t 63) (.t 66) (.c (.v false (.bool false))), none⟩,
    ⟨some 68, .mv (.t 67), none⟩,
    ⟨some 69, .fad (.t 1) 23, some (68, true)⟩,
    ⟨some 70, .ld false 1 (.t 69), some (68, true)⟩,
    ⟨some 71, .un .not (.t 70), some (68, true)⟩,
    ⟨some 72, .pick (.t 68) (.t 71) (.c (.v false (.bool false))), none⟩,
    ⟨some 73, .mv (.t 72), none⟩,
    ⟨some 74, .fad (.t 1) 24, some (73, true)⟩,
    ⟨some 75, .ld false 1 (.t 74), some (73, true)⟩,
    ⟨some 76, .len (.t 75), some (73, true)⟩,
    ⟨some 77, .bin .eql (.t 76) (.c (.v false (.int .i64 0))), some (73, true)⟩,
    ⟨some 78, .pick (.t 73) (.t 77) (.c (.v false (.bool false))), none⟩,
    ⟨some 2, .mv (.t 78), none⟩] none)
  (.ret))

def pf372 : PF := ⟨[.s 2], [], pb372⟩

-- loop.example/g00496/spec.l19NoQuery
def pb374 : PC :=
.seq (.reg [1] [] [
   ⟨some 1, .box 10 (.t 0), none⟩,
   ⟨some 2, .mv (.c (.v false (.bool false))), none⟩] none)
 (.seq (.reg [2] [] [
    ⟨some 3, .fad (.t 1) 0, none⟩,
    ⟨some 4, .ld false 1 (.t 3), none⟩,
    ⟨some 5, .bin .eql (.t 4) (.c (.v false (.int .i64 0))), none⟩,
    ⟨some 6, .mv (.t 5), none⟩,
    ⟨some 7, .fad (.t 1) 8, some (6, true)⟩,
    ⟨some 8, .ld false 1 (.t 7), some (6, true)⟩,
    ⟨some 9, .bin .eql (.t 8) (.c (.v false (.int .i64 0))), some (6, true)⟩,
    ⟨some 10, .pick (.t 6) (.t 9) (.c (.v false (.bool false))), none⟩,
    ⟨some 11, .mv (.t 10), none⟩,
    ⟨some 12, .fad (.t 1) 9, some (11, true)⟩,
    ⟨some 13, .ld false 1 (.t 12), some (11, true)⟩,
    ⟨some 14, .len (.t 13), some (11, true)⟩,
    ⟨some 15, .bin .eql (.t 14) (.c (.v false (.int .i64 0))), some (11, true)⟩,
    ⟨some 16, .pick (.t 11) (.t 15) (.c (.v false (.bool false))), none⟩,
    ⟨some 17, .mv (.t 16), none⟩,
    ⟨some 18, .fad (.t 1) 1, some (17, true)⟩,
    ⟨some 19, .fad (.t 18) 0, some (17, true)⟩,
    ⟨some 20, .ld false 1 (.t 19), some (17, true)⟩,
    ⟨some 21, .bin .eql (.t 20) (.c (.v false (.int .i64 0))), some (17, true)⟩,
    ⟨some 22, .pick (.t 17) (.t 21) (.c (.v false (.bool false))), none⟩,
    ⟨some 23, .mv (.t 22), none⟩,
    ⟨some 24, .fad (.t 1) 1, some (23, true)⟩,
    ⟨some 25, .fad (.t 24) 1, some (23, true)⟩,
    ⟨some 26, .ld false 1 (.t 25), some (23, true)⟩,
    ⟨some 27, .bin .eql (.t 26) (.c (.v false (.int .i64 0))), some (23, true)⟩,
    ⟨some 28, .pick (.t 23) (.t 27) (.c (.v false (.bool false))), none⟩,
    ⟨some 29, .mv (.t 28), none⟩,
    ⟨some 30, .fad (.t 1) 1, some (29, true)⟩,
    ⟨some 31, .fad (.t 30) 2, some (29, true)⟩,
    ⟨some 32, .ld false 1 (.t 31), some (29, true)⟩,
    ⟨some 33, .bin .eql (.t 32) (.c (.v false (.int .i64 0))), some (29, true)⟩,
    ⟨some 34, .pick (.t 29) (.t 33) (.c (.v false (.bool false))), none⟩,
    ⟨some 35, .mv (.t 34), none⟩,
    ⟨some 36, .fad (.t 1) 1, some (35, true)⟩,
    ⟨some 37, .fad (.t 36) 3, some (35, true)⟩,
    ⟨some 38, .ld true 3 (.t 37), some (35, true)⟩,
    ⟨some 39, .build [(.v false (.int .i64 0)), (.v false (.int .i64 0)), (.v false (.str ⟨#[]⟩))] [], some (35, true)⟩,
    ⟨some 40, .eqs false [0, 0, 2] (.t 38) (.t 39), some (35, true)⟩,
    ⟨some 41, .pick (.t 35) (.t 40) (.c (.v false (.bool false))), none⟩,
    ⟨some 42, .mv (.t 41), none⟩,
    ⟨some 43, .fad (.t 1) 1, some (42, true)⟩,
    ⟨some 44, .fad (.t 43) 6, some (42, true)⟩,
    ⟨some 45, .ld false 1 (.t 44), some (42, true)⟩,
    ⟨some 46, .len (.t 45), some (42, true)⟩,
    ⟨some 47, .bin .eql (.t 46) (.c (.v false (.int .i64 0))), some (42, true)⟩,
    ⟨some 48, .pick (.t 42) (.t 47) (.c (.v false (.bool false))), none⟩,
    ⟨some 2, .mv (.t 48), none⟩] none)
  (.ret))

def pf374 : PF := ⟨[.s 2], [], pb374⟩

-- loop.example/g00496/spec.l1In
def pb377 : PC :=
.seq (.reg [0, 1, 2] [] [
   ⟨some 6, .mv (.c (.v false (.bool false))), none⟩] none)
 (.seq (.reg [6] [] [
    ⟨some 7, .mv (.t 0), none⟩,
    ⟨some 8, .mv (.t 1), none⟩,
    ⟨some 9, .bin .geq (.t 7) (.t 8), none⟩,
    ⟨some 10, .mv (.t 9), none⟩,
    ⟨some 11, .mv (.t 0), some (10, true)⟩,
    ⟨some 12, .mv (.t 2), some (10, true)⟩,
    ⟨some 13, .bin .leq (.t 11) (.t 12), some (10, true)⟩,
    ⟨some 14, .pick (.t 10) (.t 13) (.c (.v false (.bool false))), none⟩,
    ⟨some 6, .mv (.t 14), none⟩] none)
  (.ret))

def pf377 : PF := ⟨[.s 6], [], pb377⟩

end Go.Proofs.Ytbfmbddafpbcpaa.OM
