/- The texts of the functions, as the own machine runs them. -/
import Derived.Test.YtloninhfmfggaaaOMDef
set_option linter.all false
namespace Go.Proofs.Ytloninhfmfggaaa.OM
set_option maxRecDepth 100000

-- loop.example/g00496/impl.Stamp
def pb54 : PC :=
.seq (.reg [0, 1] [] [
   ⟨some 4, .mv (.c (.v false (.int .i64 0))), none⟩,
   ⟨some 5, .mv (.c (.v false (.bool false))), none⟩] none)
 (.seq (.seq (.reg [0, 1, 11] [] [
     ⟨some 6, .mv (.t 0), none⟩,
     ⟨some 7, .bin .eql (.t 6) (.c (.v false (.int .i64 (-1)))), none⟩,
     ⟨some 8, .mv (.t 7), none⟩,
     ⟨some 9, .mv (.t 1), some (8, true)⟩,
     ⟨some 10, .bin .gtr (.t 9) (.c (.v false (.int .i64 0))), some (8, true)⟩,
     ⟨some 11, .pick (.t 8) (.t 10) (.c (.v false (.bool false))), none⟩] none)
   (.cond (.t 11) (.seq (.reg [4, 5] [] [
       ⟨some 12, .mv (.t 1), none⟩,
       ⟨some 4, .mv (.t 12), none⟩,
       ⟨some 5, .mv (.c (.v false (.bool true))), none⟩] none)
     (.ret))
    (.skip)))
  (.seq (.reg [4, 5] [] [
     ⟨some 13, .mv (.t 0), none⟩,
     ⟨some 4, .mv (.t 13), none⟩,
     ⟨some 5, .mv (.c (.v false (.bool false))), none⟩] none)
   (.ret)))

def pf54 : PF := ⟨[.s 4, .s 5], [], pb54⟩

-- loop.example/g00496/impl.StampSlot
def pb55 : PC :=
.seq (.reg [1, 2, 3, 6] [] [
   ⟨some 3, .box 2 (.t 0), none⟩,
   ⟨some 6, .alloc [(.v false (.int .i64 0)), (.nl 2)], none⟩,
   ⟨some 7, .mv (.c (.v false (.bool false))), none⟩] none)
 (.seq (.reg [1, 2, 3, 6, 8] [] [
    ⟨some 11, .ld true 2 (.t 3), none⟩,
    ⟨some 12, .call 70 [] [(.t 11)], none⟩,
    ⟨some 8, .alloc [(.v false (.int .i64 0)), (.nl 2)], none⟩,
    ⟨none, .st 2 (.t 8) (.t 12), none⟩] none)
  (.seq (.seq (.reg [1, 2, 3, 6, 8, 16] [] [
      ⟨some 13, .ld true 2 (.t 3), none⟩,
      ⟨some 14, .mv (.t 1), none⟩,
      ⟨some 15, .call 78 [] [(.t 13), (.t 14)], none⟩,
      ⟨some 16, .un .not (.t 15), none⟩] none)
    (.cond (.t 16) (.seq (.reg [6, 7] [] [
        ⟨some 17, .ld true 2 (.t 8), none⟩,
        ⟨none, .st 2 (.t 6) (.t 17), none⟩,
        ⟨some 7, .mv (.c (.v false (.bool false))), none⟩] none)
      (.ret))
     (.skip)))
   (.seq (.reg [1, 6, 8, 9, 10] [(26, 9)] [
      ⟨some 19, .fad (.t 3) 1, none⟩,
      ⟨some 20, .ld false 1 (.t 19), none⟩,
      ⟨some 21, .mv (.t 1), none⟩,
      ⟨some 22, .iad 2 (.t 20) (.t 21), none⟩,
      ⟨some 23, .fad (.t 22) 0, none⟩,
      ⟨some 24, .ld false 1 (.t 23), none⟩,
      ⟨some 25, .mv (.t 2), none⟩,
      ⟨some 26, .call 54 [] [(.t 24), (.t 25)], none⟩,
      ⟨some 18, .mv (.t 26), none⟩,
      ⟨some 27, .ext (.t 18) 0, none⟩,
      ⟨some 28, .ext (.t 18) 1, none⟩,
      ⟨some 9, .mv (.t 27), none⟩,
      ⟨some 10, .mv (.t 28), none⟩] none)
    (.seq (.reg [6, 8, 9, 10] [] [
       ⟨some 29, .fad (.t 8) 1, none⟩,
       ⟨some 30, .ld false 1 (.t 29), none⟩,
       ⟨some 31, .mv (.t 1), none⟩,
       ⟨some 32, .mv (.t 9), none⟩,
       ⟨some 33, .iad 2 (.t 30) (.t 31), none⟩,
       ⟨some 34, .fad (.t 33) 0, none⟩,
       ⟨none, .st 1 (.t 34) (.t 32), none⟩] none)
     (.seq (.reg [6, 7, 9] [] [
        ⟨some 35, .ld true 2 (.t 8), none⟩,
        ⟨some 36, .mv (.t 10), none⟩,
        ⟨none, .st 2 (.t 6) (.t 35), none⟩,
        ⟨some 7, .mv (.t 36), none⟩] none)
      (.ret))))))

def pf55 : PF := ⟨[.b 6 2 true, .s 7], [], pb55⟩

-- loop.example/g00496/impl.cloneChunk
def pl70_0 : PC :=
.seq (.reg [1, 2, 3, 10, 11, 12, 13] [] [
         ⟨some 13, .bin .lss (.t 12) (.t 11), none⟩] none)
       (.seq (.cond (.t 13) (.skip)
         (.exit 0))
        (.seq (.blk 1 (.seq (.reg [1, 2, 3, 5, 10, 11, 12] [] [
             ⟨some 14, .iad 2 (.t 10) (.t 12), none⟩,
             ⟨some 15, .ld true 2 (.t 14), none⟩,
             ⟨some 5, .alloc [(.v false (.int .i64 0)), (.nl 3)], none⟩,
             ⟨none, .st 2 (.t 5) (.t 15), none⟩] none)
           (.reg [1, 2, 3, 10, 11, 12] [] [
             ⟨some 16, .fad (.t 3) 1, none⟩,
             ⟨some 17, .ld false 1 (.t 16), none⟩,
             ⟨some 18, .fad (.t 5) 0, none⟩,
             ⟨some 19, .ld false 1 (.t 18), none⟩,
             ⟨some 20, .fad (.t 5) 1, none⟩,
             ⟨some 21, .ld false 1 (.t 20), none⟩,
             ⟨some 22, .call 76 [] [(.t 21)], none⟩,
             ⟨some 23, .build [(.v false (.int .i64 0)), (.nl 3)] [(0, 1, (.t 19)), (1, 1, (.t 22))], none⟩,
             ⟨some 24, .bsl 2 [.int .i64 0, .sl 3 []] 1 [(0, (.t 23))], none⟩,
             ⟨some 25, .app 2 32 (.t 17) (.t 24), none⟩,
             ⟨some 26, .fad (.t 3) 1, none⟩,
             ⟨none, .st 1 (.t 26) (.t 25), none⟩] (some [(1, 6), (3, 6), (1, 8)]))))
         (.reg [1, 2, 3, 10, 11, 12] [] [
           ⟨some 27, .bin .add (.t 12) (.c (.v false (.int .i64 1))), none⟩,
           ⟨some 12, .mv (.t 27), none⟩] none)))

def pb70 : PC :=
.seq (.reg [1, 2] [] [
   ⟨some 1, .box 2 (.t 0), none⟩,
   ⟨some 2, .alloc [(.v false (.int .i64 0)), (.nl 2)], none⟩] none)
 (.seq (.reg [1, 2, 3] [] [
    ⟨some 6, .fad (.t 1) 0, none⟩,
    ⟨some 7, .ld false 1 (.t 6), none⟩,
    ⟨some 8, .build [(.v false (.int .i64 0)), (.nl 2)] [(0, 1, (.t 7))], none⟩,
    ⟨some 3, .alloc [(.v false (.int .i64 0)), (.nl 2)], none⟩,
    ⟨none, .st 2 (.t 3) (.t 8), none⟩] none)
  (.seq (.seq (.reg [1, 2, 3, 10, 11, 12] [] [
      ⟨some 9, .fad (.t 1) 1, none⟩,
      ⟨some 10, .ld false 1 (.t 9), none⟩,
      ⟨some 11, .len (.t 10), none⟩,
      ⟨some 12, .mv (.c (.v false (.int .i64 0))), none⟩] none)
    (.blk 0 (.loop pl70_0)))
   (.seq (.reg [2] [] [
      ⟨some 28, .ld true 2 (.t 3), none⟩,
      ⟨none, .st 2 (.t 2) (.t 28), none⟩] none)
    (.ret))))

def pf70 : PF := ⟨[.b 2 2 true], [], pb70⟩

-- loop.example/g00496/impl.cloneVals
def pb76 : PC :=
.seq (.reg [0] [] [
   ⟨some 2, .mv (.c (.nl 3)), none⟩] none)
 (.seq (.reg [2] [(5, 2)] [
    ⟨some 3, .bsl 3 [] 0 [], none⟩,
    ⟨some 4, .mv (.t 0), none⟩,
    ⟨some 5, .app 3 32 (.t 3) (.t 4), none⟩,
    ⟨some 2, .mv (.t 5), none⟩] none)
  (.ret))

def pf76 : PF := ⟨[.s 2], [], pb76⟩

-- loop.example/g00496/impl.hasSlot
def pb78 : PC :=
.seq (.reg [1, 2] [] [
   ⟨some 2, .box 2 (.t 0), none⟩,
   ⟨some 4, .mv (.c (.v false (.bool false))), none⟩] none)
 (.seq (.reg [4] [] [
    ⟨some 5, .mv (.t 1), none⟩,
    ⟨some 6, .bin .geq (.t 5) (.c (.v false (.int .i64 0))), none⟩,
    ⟨some 7, .mv (.t 6), none⟩,
    ⟨some 8, .mv (.t 1), some (7, true)⟩,
    ⟨some 9, .fad (.t 2) 1, some (7, true)⟩,
    ⟨some 10, .ld false 1 (.t 9), some (7, true)⟩,
    ⟨some 11, .len (.t 10), some (7, true)⟩,
    ⟨some 12, .bin .lss (.t 8) (.t 11), some (7, true)⟩,
    ⟨some 13, .pick (.t 7) (.t 12) (.c (.v false (.bool false))), none⟩,
    ⟨some 4, .mv (.t 13), none⟩] none)
  (.ret))

def pf78 : PF := ⟨[.s 4], [], pb78⟩

-- loop.example/g00496/laws.FnExactStampSlot
def pb129 : PC :=
.seq (.reg [1, 2, 3] [] [
   ⟨some 3, .box 2 (.t 0), none⟩,
   ⟨some 6, .mv (.c (.v false (.bool false))), none⟩] none)
 (.seq (.reg [1, 2, 3, 7] [] [
    ⟨some 7, .mv (.c (.v false (.int .i64 1048576))), none⟩] none)
  (.seq (.reg [1, 2, 3, 7] [(20, 7)] [
     ⟨some 18, .ld true 2 (.t 3), none⟩,
     ⟨some 19, .mv (.t 7), none⟩,
     ⟨some 20, .call 213 [] [(.t 18), (.t 19)], none⟩,
     ⟨some 7, .mv (.t 20), none⟩] none)
   (.seq (.seq (.reg [1, 2, 3, 22] [] [
       ⟨some 21, .mv (.t 7), none⟩,
       ⟨some 22, .bin .lss (.t 21) (.c (.v false (.int .i64 0))), none⟩] none)
     (.cond (.t 22) (.seq (.reg [6] [] [
         ⟨some 6, .mv (.c (.v false (.bool true))), none⟩] none)
       (.ret))
      (.skip)))
    (.seq (.reg [1, 2, 3, 8, 9] [(28, 9)] [
       ⟨some 24, .ld true 2 (.t 3), none⟩,
       ⟨some 25, .call 237 [] [(.t 24)], none⟩,
       ⟨some 26, .mv (.t 1), none⟩,
       ⟨some 27, .mv (.t 2), none⟩,
       ⟨some 28, .call 336 [] [(.t 25), (.t 26), (.t 27)], none⟩,
       ⟨some 23, .mv (.t 28), none⟩,
       ⟨some 29, .ext (.t 23) 0, none⟩,
       ⟨some 30, .ext (.t 23) 1, none⟩,
       ⟨some 8, .alloc [(.v false (.int .i64 0)), (.nl 2)], none⟩,
       ⟨none, .st 2 (.t 8) (.t 29), none⟩,
       ⟨some 9, .mv (.t 30), none⟩] none)
     (.seq (.reg [1, 2, 3, 8, 9, 10] [] [
        ⟨some 31, .ld true 2 (.t 3), none⟩,
        ⟨some 32, .call 237 [] [(.t 31)], none⟩,
        ⟨some 10, .alloc [(.v false (.int .i64 0)), (.nl 2)], none⟩,
        ⟨none, .st 2 (.t 10) (.t 32), none⟩] none)
      (.seq (.reg [1, 2, 3, 8, 9, 10, 11, 12] [(37, 12)] [
         ⟨some 34, .ld true 2 (.t 10), none⟩,
         ⟨some 35, .mv (.t 1), none⟩,
         ⟨some 36, .mv (.t 2), none⟩,
         ⟨some 37, .call 55 [] [(.t 34), (.t 35), (.t 36)], none⟩,
         ⟨some 33, .mv (.t 37), none⟩,
         ⟨some 38, .ext (.t 33) 0, none⟩,
         ⟨some 39, .ext (.t 33) 1, none⟩,
         ⟨some 11, .alloc [(.v false (.int .i64 0)), (.nl 2)], none⟩,
         ⟨none, .st 2 (.t 11) (.t 38), none⟩,
         ⟨some 12, .mv (.t 39), none⟩] none)
       (.seq (.seq (.reg [1, 2, 3, 8, 9, 10, 11, 12, 48] [] [
           ⟨some 40, .ld true 2 (.t 11), none⟩,
           ⟨some 41, .ld true 2 (.t 8), none⟩,
           ⟨some 42, .call 145 [] [(.t 40), (.t 41)], none⟩,
           ⟨some 43, .un .not (.t 42), none⟩,
           ⟨some 44, .mv (.t 43), none⟩,
           ⟨some 45, .mv (.t 12), some (44, false)⟩,
           ⟨some 46, .mv (.t 9), some (44, false)⟩,
           ⟨some 47, .eqb true (.t 45) (.t 46), some (44, false)⟩,
           ⟨some 48, .pick (.t 44) (.c (.v false (.bool true))) (.t 47), none⟩] none)
         (.cond (.t 48) (.seq (.reg [6] [] [
             ⟨some 6, .mv (.c (.v false (.bool false))), none⟩] none)
           (.ret))
          (.skip)))
        (.seq (.seq (.reg [1, 2, 3, 8, 9, 10, 11, 12, 53] [] [
            ⟨some 49, .ld true 2 (.t 10), none⟩,
            ⟨some 50, .ld true 2 (.t 3), none⟩,
            ⟨some 51, .call 237 [] [(.t 50)], none⟩,
            ⟨some 52, .call 145 [] [(.t 49), (.t 51)], none⟩,
            ⟨some 53, .un .not (.t 52), none⟩] (some [(0, 2)]))
          (.cond (.t 53) (.seq (.reg [6] [] [
              ⟨some 6, .mv (.c (.v false (.bool false))), none⟩] none)
            (.ret))
           (.skip)))
         (.seq (.reg [1, 2, 3, 8, 9, 10, 11, 12, 13] [] [
            ⟨some 13, .mv (.c (.v false (.int .i64 1))), none⟩] none)
          (.seq (.reg [1, 2, 3, 8, 9, 11, 12, 13] [(56, 13)] [
             ⟨some 54, .ld true 2 (.t 10), none⟩,
             ⟨some 55, .mv (.t 13), none⟩,
             ⟨some 56, .call 185 [0] [(.t 54), (.t 55)], none⟩,
             ⟨some 13, .mv (.t 56), none⟩] none)
           (.seq (.seq (.reg [1, 2, 3, 8, 9, 11, 69] [] [
               ⟨some 57, .mv (.t 13), none⟩,
               ⟨some 58, .bin .lss (.t 57) (.c (.v false (.int .i64 0))), none⟩,
               ⟨some 59, .mv (.t 58), none⟩,
               ⟨some 60, .ld true 2 (.t 11), some (59, false)⟩,
               ⟨some 61, .ld true 2 (.t 8), some (59, false)⟩,
               ⟨some 62, .call 145 [] [(.t 60), (.t 61)], some (59, false)⟩,
               ⟨some 63, .un .not (.t 62), some (59, false)⟩,
               ⟨some 64, .pick (.t 59) (.c (.v false (.bool true))) (.t 63), none⟩,
               ⟨some 65, .mv (.t 64), none⟩,
               ⟨some 66, .mv (.t 12), some (65, false)⟩,
               ⟨some 67, .mv (.t 9), some (65, false)⟩,
               ⟨some 68, .eqb true (.t 66) (.t 67), some (65, false)⟩,
               ⟨some 69, .pick (.t 65) (.c (.v false (.bool true))) (.t 68), none⟩] none)
             (.cond (.t 69) (.seq (.reg [6] [] [
                 ⟨some 6, .mv (.c (.v false (.bool false))), none⟩] none)
               (.ret))
              (.skip)))
            (.seq (.reg [1, 2, 3, 8, 9, 11, 14] [] [
               ⟨some 14, .mv (.c (.v false (.int .i64 1))), none⟩] none)
             (.seq (.reg [1, 2, 3, 8, 9, 11, 14] [(72, 14)] [
                ⟨some 70, .ld true 2 (.t 11), none⟩,
                ⟨some 71, .mv (.t 14), none⟩,
                ⟨some 72, .call 185 [0] [(.t 70), (.t 71)], none⟩,
                ⟨some 14, .mv (.t 72), none⟩] none)
              (.seq (.reg [1, 2, 3, 8, 9, 11, 14, 15] [] [
                 ⟨some 15, .mv (.c (.v false (.int .i64 1))), none⟩] none)
               (.seq (.reg [1, 2, 3, 8, 9, 11, 14, 15] [(75, 15)] [
                  ⟨some 73, .ld true 2 (.t 11), none⟩,
                  ⟨some 74, .mv (.t 15), none⟩,
                  ⟨some 75, .call 170 [] [(.t 73), (.t 74)], none⟩,
                  ⟨some 15, .mv (.t 75), none⟩] none)
                (.seq (.seq (.reg [1, 2, 3, 8, 9, 11, 14, 15, 77] [] [
                    ⟨some 76, .mv (.t 15), none⟩,
                    ⟨some 77, .bin .lss (.t 76) (.c (.v false (.int .i64 0))), none⟩] none)
                  (.cond (.t 77) (.seq (.reg [6] [] [
                      ⟨some 6, .mv (.c (.v false (.bool false))), none⟩] none)
                    (.ret))
                   (.skip)))
                 (.seq (.seq (.reg [1, 2, 3, 8, 9, 11, 14, 80] [] [
                     ⟨some 78, .mv (.t 15), none⟩,
                     ⟨some 79, .mv (.t 14), none⟩,
                     ⟨some 80, .bin .neq (.t 78) (.t 79), none⟩] none)
                   (.cond (.t 80) (.seq (.reg [6] [] [
                       ⟨some 6, .mv (.c (.v false (.bool false))), none⟩] none)
                     (.ret))
                    (.skip)))
                  (.seq (.reg [8, 9, 11, 14, 16, 17] [(86, 17)] [
                     ⟨some 82, .ld true 2 (.t 3), none⟩,
                     ⟨some 83, .call 237 [] [(.t 82)], none⟩,
                     ⟨some 84, .mv (.t 1), none⟩,
                     ⟨some 85, .mv (.t 2), none⟩,
                     ⟨some 86, .call 55 [] [(.t 83), (.t 84), (.t 85)], none⟩,
                     ⟨some 81, .mv (.t 86), none⟩,
                     ⟨some 87, .ext (.t 81) 0, none⟩,
                     ⟨some 88, .ext (.t 81) 1, none⟩,
                     ⟨some 16, .alloc [(.v false (.int .i64 0)), (.nl 2)], none⟩,
                     ⟨none, .st 2 (.t 16) (.t 87), none⟩,
                     ⟨some 17, .mv (.t 88), none⟩] none)
                   (.seq (.seq (.reg [11, 14, 97] [] [
                       ⟨some 89, .ld true 2 (.t 16), none⟩,
                       ⟨some 90, .ld true 2 (.t 8), none⟩,
                       ⟨some 91, .call 145 [] [(.t 89), (.t 90)], none⟩,
                       ⟨some 92, .un .not (.t 91), none⟩,
                       ⟨some 93, .mv (.t 92), none⟩,
                       ⟨some 94, .mv (.t 17), some (93, false)⟩,
                       ⟨some 95, .mv (.t 9), some (93, false)⟩,
                       ⟨some 96, .eqb true (.t 94) (.t 95), some (93, false)⟩,
                       ⟨some 97, .pick (.t 93) (.c (.v false (.bool true))) (.t 96), none⟩] none)
                     (.cond (.t 97) (.seq (.reg [6] [] [
                         ⟨some 6, .mv (.c (.v false (.bool false))), none⟩] none)
                       (.ret))
                      (.skip)))
                    (.seq (.reg [11, 14, 15] [] [
                       ⟨some 15, .mv (.c (.v false (.int .i64 1))), none⟩] none)
                     (.seq (.reg [14, 15] [(100, 15)] [
                        ⟨some 98, .ld true 2 (.t 11), none⟩,
                        ⟨some 99, .mv (.t 15), none⟩,
                        ⟨some 100, .call 170 [] [(.t 98), (.t 99)], none⟩,
                        ⟨some 15, .mv (.t 100), none⟩] none)
                      (.seq (.seq (.reg [14, 15, 102] [] [
                          ⟨some 101, .mv (.t 15), none⟩,
                          ⟨some 102, .bin .lss (.t 101) (.c (.v false (.int .i64 0))), none⟩] none)
                        (.cond (.t 102) (.seq (.reg [6] [] [
                            ⟨some 6, .mv (.c (.v false (.bool false))), none⟩] none)
                          (.ret))
                         (.skip)))
                       (.seq (.seq (.reg [105] [] [
                           ⟨some 103, .mv (.t 15), none⟩,
                           ⟨some 104, .mv (.t 14), none⟩,
                           ⟨some 105, .bin .neq (.t 103) (.t 104), none⟩] none)
                         (.cond (.t 105) (.seq (.reg [6] [] [
                             ⟨some 6, .mv (.c (.v false (.bool false))), none⟩] none)
                           (.ret))
                          (.skip)))
                        (.seq (.reg [6] [] [
                           ⟨some 6, .mv (.c (.v false (.bool true))), none⟩] none)
                         (.ret)))))))))))))))))))))))))

def pf129 : PF := ⟨[.s 6], [], pb129⟩

-- loop.example/g00496/laws.eqChunk
def pb145 : PC :=
.seq (.reg [2, 3] [] [
   ⟨some 2, .box 2 (.t 0), none⟩,
   ⟨some 3, .box 2 (.t 1), none⟩,
   ⟨some 4, .mv (.c (.v false (.bool false))), none⟩] none)
 (.seq (.seq (.reg [2, 3, 9] [] [
     ⟨some 5, .fad (.t 2) 0, none⟩,
     ⟨some 6, .ld false 1 (.t 5), none⟩,
     ⟨some 7, .fad (.t 3) 0, none⟩,
     ⟨some 8, .ld false 1 (.t 7), none⟩,
     ⟨some 9, .bin .neq (.t 6) (.t 8), none⟩] none)
   (.cond (.t 9) (.seq (.reg [4] [] [
       ⟨some 4, .mv (.c (.v false (.bool false))), none⟩] none)
     (.ret))
    (.skip)))
  (.seq (.seq (.reg [15] [] [
      ⟨some 10, .fad (.t 2) 1, none⟩,
      ⟨some 11, .ld false 1 (.t 10), none⟩,
      ⟨some 12, .fad (.t 3) 1, none⟩,
      ⟨some 13, .ld false 1 (.t 12), none⟩,
      ⟨some 14, .call 162 [] [(.t 11), (.t 13)], none⟩,
      ⟨some 15, .un .not (.t 14), none⟩] none)
    (.cond (.t 15) (.seq (.reg [4] [] [
        ⟨some 4, .mv (.c (.v false (.bool false))), none⟩] none)
      (.ret))
     (.skip)))
   (.seq (.reg [4] [] [
      ⟨some 4, .mv (.c (.v false (.bool true))), none⟩] none)
    (.ret))))

def pf145 : PF := ⟨[.s 4], [], pb145⟩

-- loop.example/g00496/laws.eqSlot
def pb161 : PC :=
.seq (.reg [2, 3] [] [
   ⟨some 2, .box 2 (.t 0), none⟩,
   ⟨some 3, .box 2 (.t 1), none⟩,
   ⟨some 4, .mv (.c (.v false (.bool false))), none⟩] none)
 (.seq (.seq (.reg [2, 3, 9] [] [
     ⟨some 5, .fad (.t 2) 0, none⟩,
     ⟨some 6, .ld false 1 (.t 5), none⟩,
     ⟨some 7, .fad (.t 3) 0, none⟩,
     ⟨some 8, .ld false 1 (.t 7), none⟩,
     ⟨some 9, .bin .neq (.t 6) (.t 8), none⟩] none)
   (.cond (.t 9) (.seq (.reg [4] [] [
       ⟨some 4, .mv (.c (.v false (.bool false))), none⟩] none)
     (.ret))
    (.skip)))
  (.seq (.seq (.reg [15] [] [
      ⟨some 10, .fad (.t 2) 1, none⟩,
      ⟨some 11, .ld false 1 (.t 10), none⟩,
      ⟨some 12, .fad (.t 3) 1, none⟩,
      ⟨some 13, .ld false 1 (.t 12), none⟩,
      ⟨some 14, .call 166 [] [(.t 11), (.t 13)], none⟩,
      ⟨some 15, .un .not (.t 14), none⟩] none)
    (.cond (.t 15) (.seq (.reg [4] [] [
        ⟨some 4, .mv (.c (.v false (.bool false))), none⟩] none)
      (.ret))
     (.skip)))
   (.seq (.reg [4] [] [
      ⟨some 4, .mv (.c (.v false (.bool true))), none⟩] none)
    (.ret))))

def pf161 : PF := ⟨[.s 4], [], pb161⟩

-- loop.example/g00496/laws.eqSlotS
def pl162_0 : PC :=
.seq (.seq (.reg [0, 1, 5, 14] [] [
          ⟨some 11, .mv (.t 5), none⟩,
          ⟨some 12, .mv (.t 0), none⟩,
          ⟨some 13, .len (.t 12), none⟩,
          ⟨some 14, .bin .lss (.t 11) (.t 13), none⟩] none)
        (.cond (.t 14) (.skip)
         (.exit 0)))
       (.seq (.blk 1 (.seq (.reg [0, 1, 5, 26] [] [
            ⟨some 17, .mv (.t 0), none⟩,
            ⟨some 18, .mv (.t 5), none⟩,
            ⟨some 19, .iad 2 (.t 17) (.t 18), none⟩,
            ⟨some 20, .ld true 2 (.t 19), none⟩,
            ⟨some 21, .mv (.t 1), none⟩,
            ⟨some 22, .mv (.t 5), none⟩,
            ⟨some 23, .iad 2 (.t 21) (.t 22), none⟩,
            ⟨some 24, .ld true 2 (.t 23), none⟩,
            ⟨some 25, .call 161 [] [(.t 20), (.t 24)], none⟩,
            ⟨some 26, .un .not (.t 25), none⟩] (some []))
          (.cond (.t 26) (.seq (.reg [4] [] [
              ⟨some 4, .mv (.c (.v false (.bool false))), none⟩] none)
            (.ret))
           (.skip))))
        (.reg [0, 1, 5] [] [
          ⟨some 15, .mv (.t 5), none⟩,
          ⟨some 16, .bin .add (.t 15) (.c (.v false (.int .i64 1))), none⟩,
          ⟨some 5, .mv (.t 16), none⟩] none))

def pb162 : PC :=
.seq (.reg [0, 1] [] [
   ⟨some 4, .mv (.c (.v false (.bool false))), none⟩] none)
 (.seq (.seq (.reg [0, 1, 10] [] [
     ⟨some 6, .mv (.t 0), none⟩,
     ⟨some 7, .len (.t 6), none⟩,
     ⟨some 8, .mv (.t 1), none⟩,
     ⟨some 9, .len (.t 8), none⟩,
     ⟨some 10, .bin .neq (.t 7) (.t 9), none⟩] none)
   (.cond (.t 10) (.seq (.reg [4] [] [
       ⟨some 4, .mv (.c (.v false (.bool false))), none⟩] none)
     (.ret))
    (.skip)))
  (.seq (.seq (.reg [0, 1, 5] [] [
      ⟨some 5, .mv (.c (.v false (.int .i64 0))), none⟩] none)
    (.blk 0 (.loop pl162_0)))
   (.seq (.reg [4] [] [
      ⟨some 4, .mv (.c (.v false (.bool true))), none⟩] none)
    (.ret))))

def pf162 : PF := ⟨[.s 4], [], pb162⟩

-- loop.example/g00496/laws.eqVal
def pb165 : PC :=
.seq (.reg [2, 3] [] [
   ⟨some 2, .box 3 (.t 0), none⟩,
   ⟨some 3, .box 3 (.t 1), none⟩,
   ⟨some 4, .mv (.c (.v false (.bool false))), none⟩] none)
 (.seq (.seq (.reg [2, 3, 9] [] [
     ⟨some 5, .fad (.t 2) 0, none⟩,
     ⟨some 6, .ld false 1 (.t 5), none⟩,
     ⟨some 7, .fad (.t 3) 0, none⟩,
     ⟨some 8, .ld false 1 (.t 7), none⟩,
     ⟨some 9, .bin .neq (.t 6) (.t 8), none⟩] none)
   (.cond (.t 9) (.seq (.reg [4] [] [
       ⟨some 4, .mv (.c (.v false (.bool false))), none⟩] none)
     (.ret))
    (.skip)))
  (.seq (.seq (.reg [2, 3, 14] [] [
      ⟨some 10, .fad (.t 2) 1, none⟩,
      ⟨some 11, .ld false 1 (.t 10), none⟩,
      ⟨some 12, .fad (.t 3) 1, none⟩,
      ⟨some 13, .ld false 1 (.t 12), none⟩,
      ⟨some 14, .bin .neq (.t 11) (.t 13), none⟩] none)
    (.cond (.t 14) (.seq (.reg [4] [] [
        ⟨some 4, .mv (.c (.v false (.bool false))), none⟩] none)
      (.ret))
     (.skip)))
   (.seq (.seq (.reg [19] [] [
       ⟨some 15, .fad (.t 2) 2, none⟩,
       ⟨some 16, .ld false 1 (.t 15), none⟩,
       ⟨some 17, .fad (.t 3) 2, none⟩,
       ⟨some 18, .ld false 1 (.t 17), none⟩,
       ⟨some 19, .bin .neq (.t 16) (.t 18), none⟩] none)
     (.cond (.t 19) (.seq (.reg [4] [] [
         ⟨some 4, .mv (.c (.v false (.bool false))), none⟩] none)
       (.ret))
      (.skip)))
    (.seq (.reg [4] [] [
       ⟨some 4, .mv (.c (.v false (.bool true))), none⟩] none)
     (.ret)))))

def pf165 : PF := ⟨[.s 4], [], pb165⟩

-- loop.example/g00496/laws.eqValS
def pl166_0 : PC :=
.seq (.seq (.reg [0, 1, 5, 14] [] [
          ⟨some 11, .mv (.t 5), none⟩,
          ⟨some 12, .mv (.t 0), none⟩,
          ⟨some 13, .len (.t 12), none⟩,
          ⟨some 14, .bin .lss (.t 11) (.t 13), none⟩] none)
        (.cond (.t 14) (.skip)
         (.exit 0)))
       (.seq (.blk 1 (.seq (.reg [0, 1, 5, 26] [] [
            ⟨some 17, .mv (.t 0), none⟩,
            ⟨some 18, .mv (.t 5), none⟩,
            ⟨some 19, .iad 3 (.t 17) (.t 18), none⟩,
            ⟨some 20, .ld true 3 (.t 19), none⟩,
            ⟨some 21, .mv (.t 1), none⟩,
            ⟨some 22, .mv (.t 5), none⟩,
            ⟨some 23, .iad 3 (.t 21) (.t 22), none⟩,
            ⟨some 24, .ld true 3 (.t 23), none⟩,
            ⟨some 25, .call 165 [] [(.t 20), (.t 24)], none⟩,
            ⟨some 26, .un .not (.t 25), none⟩] (some []))
          (.cond (.t 26) (.seq (.reg [4] [] [
              ⟨some 4, .mv (.c (.v false (.bool false))), none⟩] none)
            (.ret))
           (.skip))))
        (.reg [0, 1, 5] [] [
          ⟨some 15, .mv (.t 5), none⟩,
          ⟨some 16, .bin .add (.t 15) (.c (.v false (.int .i64 1))), none⟩,
          ⟨some 5, .mv (.t 16), none⟩] none))

def pb166 : PC :=
.seq (.reg [0, 1] [] [
   ⟨some 4, .mv (.c (.v false (.bool false))), none⟩] none)
 (.seq (.seq (.reg [0, 1, 10] [] [
     ⟨some 6, .mv (.t 0), none⟩,
     ⟨some 7, .len (.t 6), none⟩,
     ⟨some 8, .mv (.t 1), none⟩,
     ⟨some 9, .len (.t 8), none⟩,
     ⟨some 10, .bin .neq (.t 7) (.t 9), none⟩] none)
   (.cond (.t 10) (.seq (.reg [4] [] [
       ⟨some 4, .mv (.c (.v false (.bool false))), none⟩] none)
     (.ret))
    (.skip)))
  (.seq (.seq (.reg [0, 1, 5] [] [
      ⟨some 5, .mv (.c (.v false (.int .i64 0))), none⟩] none)
    (.blk 0 (.loop pl166_0)))
   (.seq (.reg [4] [] [
      ⟨some 4, .mv (.c (.v false (.bool true))), none⟩] none)
    (.ret))))

def pf166 : PF := ⟨[.s 4], [], pb166⟩

-- loop.example/g00496/laws.heldChunk
def pb170 : PC :=
.seq (.reg [1, 2] [] [
   ⟨some 2, .box 2 (.t 0), none⟩,
   ⟨some 4, .mv (.c (.v false (.int .i64 0))), none⟩] none)
 (.seq (.reg [1] [(8, 1)] [
    ⟨some 5, .fad (.t 2) 1, none⟩,
    ⟨some 6, .ld false 1 (.t 5), none⟩,
    ⟨some 7, .mv (.t 1), none⟩,
    ⟨some 8, .call 179 [] [(.t 6), (.t 7)], none⟩,
    ⟨some 1, .mv (.t 8), none⟩] none)
  (.seq (.seq (.reg [1, 10] [] [
      ⟨some 9, .mv (.t 1), none⟩,
      ⟨some 10, .bin .lss (.t 9) (.c (.v false (.int .i64 0))), none⟩] none)
    (.cond (.t 10) (.seq (.reg [4] [] [
        ⟨some 4, .mv (.c (.v false (.int .i64 (-1)))), none⟩] none)
      (.ret))
     (.skip)))
   (.seq (.reg [1, 4] [] [
      ⟨some 11, .mv (.t 1), none⟩,
      ⟨some 4, .mv (.t 11), none⟩] none)
    (.ret))))

def pf170 : PF := ⟨[.s 4], [], pb170⟩

-- loop.example/g00496/laws.heldSlotS
def pl179_0 : PC :=
.seq (.seq (.reg [0, 1, 5, 9] [] [
         ⟨some 6, .mv (.t 5), none⟩,
         ⟨some 7, .mv (.t 0), none⟩,
         ⟨some 8, .len (.t 7), none⟩,
         ⟨some 9, .bin .lss (.t 6) (.t 8), none⟩] none)
       (.cond (.t 9) (.skip)
        (.exit 0)))
      (.seq (.blk 1 (.seq (.seq (.reg [0, 1, 5, 18] [] [
            ⟨some 12, .mv (.t 0), none⟩,
            ⟨some 13, .mv (.t 5), none⟩,
            ⟨some 14, .iad 2 (.t 12) (.t 13), none⟩,
            ⟨some 15, .fad (.t 14) 0, none⟩,
            ⟨some 16, .ld false 1 (.t 15), none⟩,
            ⟨some 17, .mv (.t 1), none⟩,
            ⟨some 18, .bin .neq (.t 16) (.t 17), none⟩] none)
          (.cond (.t 18) (.seq (.reg [4] [] [
              ⟨some 4, .mv (.c (.v false (.int .i64 (-1)))), none⟩] none)
            (.ret))
           (.skip)))
         (.seq (.reg [0, 1, 5] [] [
            ⟨some 19, .mv (.t 1), none⟩,
            ⟨some 20, .bin .add (.t 19) (.c (.v false (.int .i64 1))), none⟩,
            ⟨some 1, .mv (.t 20), none⟩] none)
          (.seq (.reg [0, 1, 5] [(27, 1)] [
             ⟨some 21, .mv (.t 0), none⟩,
             ⟨some 22, .mv (.t 5), none⟩,
             ⟨some 23, .iad 2 (.t 21) (.t 22), none⟩,
             ⟨some 24, .fad (.t 23) 1, none⟩,
             ⟨some 25, .ld false 1 (.t 24), none⟩,
             ⟨some 26, .mv (.t 1), none⟩,
             ⟨some 27, .call 181 [] [(.t 25), (.t 26)], none⟩,
             ⟨some 1, .mv (.t 27), none⟩] none)
           (.seq (.reg [0, 1, 5, 29] [] [
              ⟨some 28, .mv (.t 1), none⟩,
              ⟨some 29, .bin .lss (.t 28) (.c (.v false (.int .i64 0))), none⟩] none)
            (.cond (.t 29) (.seq (.reg [4] [] [
                ⟨some 4, .mv (.c (.v false (.int .i64 (-1)))), none⟩] none)
              (.ret))
             (.skip)))))))
       (.reg [0, 1, 5] [] [
         ⟨some 10, .mv (.t 5), none⟩,
         ⟨some 11, .bin .add (.t 10) (.c (.v false (.int .i64 1))), none⟩,
         ⟨some 5, .mv (.t 11), none⟩] none))

def pb179 : PC :=
.seq (.reg [0, 1] [] [
   ⟨some 4, .mv (.c (.v false (.int .i64 0))), none⟩] none)
 (.seq (.seq (.reg [0, 1, 5] [] [
     ⟨some 5, .mv (.c (.v false (.int .i64 0))), none⟩] none)
   (.blk 0 (.loop pl179_0)))
  (.seq (.reg [1, 4] [] [
     ⟨some 30, .mv (.t 1), none⟩,
     ⟨some 4, .mv (.t 30), none⟩] none)
   (.ret)))

def pf179 : PF := ⟨[.s 4], [], pb179⟩

-- loop.example/g00496/laws.heldValS
def pl181_0 : PC :=
.seq (.seq (.reg [0, 1, 5, 9] [] [
         ⟨some 6, .mv (.t 5), none⟩,
         ⟨some 7, .mv (.t 0), none⟩,
         ⟨some 8, .len (.t 7), none⟩,
         ⟨some 9, .bin .lss (.t 6) (.t 8), none⟩] none)
       (.cond (.t 9) (.skip)
        (.exit 0)))
      (.seq (.blk 1 (.seq (.seq (.reg [0, 1, 5, 18] [] [
            ⟨some 12, .mv (.t 0), none⟩,
            ⟨some 13, .mv (.t 5), none⟩,
            ⟨some 14, .iad 3 (.t 12) (.t 13), none⟩,
            ⟨some 15, .fad (.t 14) 0, none⟩,
            ⟨some 16, .ld false 1 (.t 15), none⟩,
            ⟨some 17, .mv (.t 1), none⟩,
            ⟨some 18, .bin .neq (.t 16) (.t 17), none⟩] none)
          (.cond (.t 18) (.seq (.reg [4] [] [
              ⟨some 4, .mv (.c (.v false (.int .i64 (-1)))), none⟩] none)
            (.ret))
           (.skip)))
         (.seq (.reg [0, 1, 5] [] [
            ⟨some 19, .mv (.t 1), none⟩,
            ⟨some 20, .bin .add (.t 19) (.c (.v false (.int .i64 1))), none⟩,
            ⟨some 1, .mv (.t 20), none⟩] none)
          (.seq (.seq (.reg [0, 1, 5, 27] [] [
              ⟨some 21, .mv (.t 0), none⟩,
              ⟨some 22, .mv (.t 5), none⟩,
              ⟨some 23, .iad 3 (.t 21) (.t 22), none⟩,
              ⟨some 24, .fad (.t 23) 1, none⟩,
              ⟨some 25, .ld false 1 (.t 24), none⟩,
              ⟨some 26, .mv (.t 1), none⟩,
              ⟨some 27, .bin .neq (.t 25) (.t 26), none⟩] none)
            (.cond (.t 27) (.seq (.reg [4] [] [
                ⟨some 4, .mv (.c (.v false (.int .i64 (-1)))), none⟩] none)
              (.ret))
             (.skip)))
           (.seq (.reg [0, 1, 5] [] [
              ⟨some 28, .mv (.t 1), none⟩,
              ⟨some 29, .bin .add (.t 28) (.c (.v false (.int .i64 1))), none⟩,
              ⟨some 1, .mv (.t 29), none⟩] none)
            (.seq (.seq (.reg [0, 1, 5, 37] [] [
                ⟨some 30, .mv (.t 0), none⟩,
                ⟨some 31, .mv (.t 5), none⟩,
                ⟨some 32, .iad 3 (.t 30) (.t 31), none⟩,
                ⟨some 33, .fad (.t 32) 2, none⟩,
                ⟨some 34, .ld false 1 (.t 33), none⟩,
                ⟨some 35, .mv (.t 1), none⟩,
                ⟨some 36, .call 196 [] [(.t 35)], none⟩,
                ⟨some 37, .bin .neq (.t 34) (.t 36), none⟩] (some [(2, 6), (4, 6)]))
              (.cond (.t 37) (.seq (.reg [4] [] [
                  ⟨some 4, .mv (.c (.v false (.int .i64 (-1)))), none⟩] none)
                (.ret))
               (.skip)))
             (.reg [0, 1, 5] [] [
               ⟨some 38, .mv (.t 1), none⟩,
               ⟨some 39, .bin .add (.t 38) (.c (.v false (.int .i64 1))), none⟩,
               ⟨some 1, .mv (.t 39), none⟩] none)))))))
       (.reg [0, 1, 5] [] [
         ⟨some 10, .mv (.t 5), none⟩,
         ⟨some 11, .bin .add (.t 10) (.c (.v false (.int .i64 1))), none⟩,
         ⟨some 5, .mv (.t 11), none⟩] none))

def pb181 : PC :=
.seq (.reg [0, 1] [] [
   ⟨some 4, .mv (.c (.v false (.int .i64 0))), none⟩] none)
 (.seq (.seq (.reg [0, 1, 5] [] [
     ⟨some 5, .mv (.c (.v false (.int .i64 0))), none⟩] none)
   (.blk 0 (.loop pl181_0)))
  (.seq (.reg [4] [] [
     ⟨some 40, .mv (.t 1), none⟩,
     ⟨some 4, .mv (.t 40), none⟩] none)
   (.ret)))

def pf181 : PF := ⟨[.s 4], [], pb181⟩

-- loop.example/g00496/laws.markChunk
def pb185 : PC :=
.seq (.reg [0, 1, 2] [] [
   ⟨some 2, .box 2 (.t 0), none⟩,
   ⟨some 4, .mv (.c (.v false (.int .i64 0))), none⟩] none)
 (.seq (.reg [0, 1] [(8, 1)] [
    ⟨some 5, .fad (.t 2) 1, none⟩,
    ⟨some 6, .ld false 1 (.t 5), none⟩,
    ⟨some 7, .mv (.t 1), none⟩,
    ⟨some 8, .call 194 [0] [(.t 6), (.t 7)], none⟩,
    ⟨some 1, .mv (.t 8), none⟩] none)
  (.seq (.reg [0, 1, 4] [] [
     ⟨some 9, .mv (.t 1), none⟩,
     ⟨some 4, .mv (.t 9), none⟩] none)
   (.ret)))

def pf185 : PF := ⟨[.s 4], [0], pb185⟩

-- loop.example/g00496/laws.markSlotS
def pl194_0 : PC :=
.seq (.seq (.reg [0, 1, 5, 9] [] [
         ⟨some 6, .mv (.t 5), none⟩,
         ⟨some 7, .mv (.t 0), none⟩,
         ⟨some 8, .len (.t 7), none⟩,
         ⟨some 9, .bin .lss (.t 6) (.t 8), none⟩] none)
       (.cond (.t 9) (.skip)
        (.exit 0)))
      (.seq (.blk 1 (.seq (.reg [0, 1, 5] [] [
           ⟨some 12, .mv (.t 0), none⟩,
           ⟨some 13, .mv (.t 5), none⟩,
           ⟨some 14, .mv (.t 1), none⟩,
           ⟨some 15, .iad 2 (.t 12) (.t 13), none⟩,
           ⟨some 16, .fad (.t 15) 0, none⟩,
           ⟨none, .st 1 (.t 16) (.t 14), none⟩] none)
         (.seq (.reg [0, 1, 5] [] [
            ⟨some 17, .mv (.t 1), none⟩,
            ⟨some 18, .bin .add (.t 17) (.c (.v false (.int .i64 1))), none⟩,
            ⟨some 1, .mv (.t 18), none⟩] none)
          (.reg [0, 1, 5] [(25, 1)] [
            ⟨some 19, .mv (.t 0), none⟩,
            ⟨some 20, .mv (.t 5), none⟩,
            ⟨some 21, .iad 2 (.t 19) (.t 20), none⟩,
            ⟨some 22, .fad (.t 21) 1, none⟩,
            ⟨some 23, .ld false 1 (.t 22), none⟩,
            ⟨some 24, .mv (.t 1), none⟩,
            ⟨some 25, .call 197 [0] [(.t 23), (.t 24)], none⟩,
            ⟨some 1, .mv (.t 25), none⟩] none))))
       (.reg [0, 1, 5] [] [
         ⟨some 10, .mv (.t 5), none⟩,
         ⟨some 11, .bin .add (.t 10) (.c (.v false (.int .i64 1))), none⟩,
         ⟨some 5, .mv (.t 11), none⟩] none))

def pb194 : PC :=
.seq (.reg [0, 1] [] [
   ⟨some 4, .mv (.c (.v false (.int .i64 0))), none⟩] none)
 (.seq (.seq (.reg [0, 1, 5] [] [
     ⟨some 5, .mv (.c (.v false (.int .i64 0))), none⟩] none)
   (.blk 0 (.loop pl194_0)))
  (.seq (.reg [0, 1, 4] [] [
     ⟨some 26, .mv (.t 1), none⟩,
     ⟨some 4, .mv (.t 26), none⟩] none)
   (.ret)))

def pf194 : PF := ⟨[.s 4], [0], pb194⟩

-- loop.example/g00496/laws.markText
def pl196_0 : PC :=
.seq (.seq (.reg [0, 3, 7] [] [
          ⟨some 6, .mv (.t 0), none⟩,
          ⟨some 7, .bin .gtr (.t 6) (.c (.v false (.int .i64 0))), none⟩] none)
        (.cond (.t 7) (.skip)
         (.exit 0)))
       (.blk 1 (.seq (.reg [0, 3] [] [
           ⟨some 8, .mv (.t 0), none⟩,
           ⟨some 9, .bin .rem (.t 8) (.c (.v false (.int .i64 10))), none⟩,
           ⟨some 10, .bin .add (.c (.v false (.int .i64 48))) (.t 9), none⟩,
           ⟨some 11, .cvi .u8 (.t 10), none⟩,
           ⟨some 12, .bsl 1 [.int .u8 0] 1 [(0, (.t 11))], none⟩,
           ⟨some 13, .cvs (.t 12), none⟩,
           ⟨some 14, .mv (.t 3), none⟩,
           ⟨some 15, .bin .add (.t 13) (.t 14), none⟩,
           ⟨some 3, .mv (.t 15), none⟩] none)
         (.reg [0, 3] [] [
           ⟨some 16, .mv (.t 0), none⟩,
           ⟨some 17, .bin .quo (.t 16) (.c (.v false (.int .i64 10))), none⟩,
           ⟨some 0, .mv (.t 17), none⟩] none)))

def pb196 : PC :=
.seq (.reg [0] [] [
   ⟨some 2, .mv (.c (.v false (.str ⟨#[]⟩))), none⟩] none)
 (.seq (.seq (.reg [0, 5] [] [
     ⟨some 4, .mv (.t 0), none⟩,
     ⟨some 5, .bin .leq (.t 4) (.c (.v false (.int .i64 0))), none⟩] none)
   (.cond (.t 5) (.seq (.reg [2] [] [
       ⟨some 2, .mv (.c (.v false (.str ⟨#[109, 48]⟩))), none⟩] none)
     (.ret))
    (.skip)))
  (.seq (.reg [0, 3] [] [
     ⟨some 3, .mv (.c (.v false (.str ⟨#[]⟩))), none⟩] none)
   (.seq (.blk 0 (.loop pl196_0))
    (.seq (.reg [2] [] [
       ⟨some 18, .mv (.t 3), none⟩,
       ⟨some 19, .bin .add (.c (.v false (.str ⟨#[109]⟩))) (.t 18), none⟩,
       ⟨some 2, .mv (.t 19), none⟩] none)
     (.ret)))))

def pf196 : PF := ⟨[.s 2], [], pb196⟩

-- loop.example/g00496/laws.markValS
def pl197_0 : PC :=
.seq (.seq (.reg [0, 1, 5, 9] [] [
         ⟨some 6, .mv (.t 5), none⟩,
         ⟨some 7, .mv (.t 0), none⟩,
         ⟨some 8, .len (.t 7), none⟩,
         ⟨some 9, .bin .lss (.t 6) (.t 8), none⟩] none)
       (.cond (.t 9) (.skip)
        (.exit 0)))
      (.seq (.blk 1 (.seq (.reg [0, 1, 5] [] [
           ⟨some 12, .mv (.t 0), none⟩,
           ⟨some 13, .mv (.t 5), none⟩,
           ⟨some 14, .mv (.t 1), none⟩,
           ⟨some 15, .iad 3 (.t 12) (.t 13), none⟩,
           ⟨some 16, .fad (.t 15) 0, none⟩,
           ⟨none, .st 1 (.t 16) (.t 14), none⟩] none)
         (.seq (.reg [0, 1, 5] [] [
            ⟨some 17, .mv (.t 1), none⟩,
            ⟨some 18, .bin .add (.t 17) (.c (.v false (.int .i64 1))), none⟩,
            ⟨some 1, .mv (.t 18), none⟩] none)
          (.seq (.reg [0, 1, 5] [] [
             ⟨some 19, .mv (.t 0), none⟩,
             ⟨some 20, .mv (.t 5), none⟩,
             ⟨some 21, .mv (.t 1), none⟩,
             ⟨some 22, .iad 3 (.t 19) (.t 20), none⟩,
             ⟨some 23, .fad (.t 22) 1, none⟩,
             ⟨none, .st 1 (.t 23) (.t 21), none⟩] none)
           (.seq (.reg [0, 1, 5] [] [
              ⟨some 24, .mv (.t 1), none⟩,
              ⟨some 25, .bin .add (.t 24) (.c (.v false (.int .i64 1))), none⟩,
              ⟨some 1, .mv (.t 25), none⟩] none)
            (.seq (.reg [0, 1, 5] [] [
               ⟨some 26, .mv (.t 0), none⟩,
               ⟨some 27, .mv (.t 5), none⟩,
               ⟨some 28, .mv (.t 1), none⟩,
               ⟨some 29, .call 196 [] [(.t 28)], none⟩,
               ⟨some 30, .iad 3 (.t 26) (.t 27), none⟩,
               ⟨some 31, .fad (.t 30) 2, none⟩,
               ⟨none, .st 1 (.t 31) (.t 29), none⟩] none)
             (.reg [0, 1, 5] [] [
               ⟨some 32, .mv (.t 1), none⟩,
               ⟨some 33, .bin .add (.t 32) (.c (.v false (.int .i64 1))), none⟩,
               ⟨some 1, .mv (.t 33), none⟩] none)))))))
       (.reg [0, 1, 5] [] [
         ⟨some 10, .mv (.t 5), none⟩,
         ⟨some 11, .bin .add (.t 10) (.c (.v false (.int .i64 1))), none⟩,
         ⟨some 5, .mv (.t 11), none⟩] none))

def pb197 : PC :=
.seq (.reg [0, 1] [] [
   ⟨some 4, .mv (.c (.v false (.int .i64 0))), none⟩] none)
 (.seq (.seq (.reg [0, 1, 5] [] [
     ⟨some 5, .mv (.c (.v false (.int .i64 0))), none⟩] none)
   (.blk 0 (.loop pl197_0)))
  (.seq (.reg [0, 4] [] [
     ⟨some 34, .mv (.t 1), none⟩,
     ⟨some 4, .mv (.t 34), none⟩] none)
   (.ret)))

def pf197 : PF := ⟨[.s 4], [0], pb197⟩

-- loop.example/g00496/laws.szChunk
def pb213 : PC :=
.seq (.reg [1, 2] [] [
   ⟨some 2, .box 2 (.t 0), none⟩,
   ⟨some 4, .mv (.c (.v false (.int .i64 0))), none⟩] none)
 (.seq (.reg [1] [(8, 1)] [
    ⟨some 5, .fad (.t 2) 1, none⟩,
    ⟨some 6, .ld false 1 (.t 5), none⟩,
    ⟨some 7, .mv (.t 1), none⟩,
    ⟨some 8, .call 228 [] [(.t 6), (.t 7)], none⟩,
    ⟨some 1, .mv (.t 8), none⟩] none)
  (.seq (.seq (.reg [1, 10] [] [
      ⟨some 9, .mv (.t 1), none⟩,
      ⟨some 10, .bin .lss (.t 9) (.c (.v false (.int .i64 0))), none⟩] none)
    (.cond (.t 10) (.seq (.reg [4] [] [
        ⟨some 4, .mv (.c (.v false (.int .i64 (-1)))), none⟩] none)
      (.ret))
     (.skip)))
   (.seq (.reg [1, 4] [] [
      ⟨some 11, .mv (.t 1), none⟩,
      ⟨some 4, .mv (.t 11), none⟩] none)
    (.ret))))

def pf213 : PF := ⟨[.s 4], [], pb213⟩

-- loop.example/g00496/laws.szSlot
def pb227 : PC :=
.seq (.reg [1, 2] [] [
   ⟨some 2, .box 2 (.t 0), none⟩,
   ⟨some 4, .mv (.c (.v false (.int .i64 0))), none⟩] none)
 (.seq (.reg [1] [(8, 1)] [
    ⟨some 5, .fad (.t 2) 1, none⟩,
    ⟨some 6, .ld false 1 (.t 5), none⟩,
    ⟨some 7, .mv (.t 1), none⟩,
    ⟨some 8, .call 232 [] [(.t 6), (.t 7)], none⟩,
    ⟨some 1, .mv (.t 8), none⟩] none)
  (.seq (.seq (.reg [1, 10] [] [
      ⟨some 9, .mv (.t 1), none⟩,
      ⟨some 10, .bin .lss (.t 9) (.c (.v false (.int .i64 0))), none⟩] none)
    (.cond (.t 10) (.seq (.reg [4] [] [
        ⟨some 4, .mv (.c (.v false (.int .i64 (-1)))), none⟩] none)
      (.ret))
     (.skip)))
   (.seq (.reg [1, 4] [] [
      ⟨some 11, .mv (.t 1), none⟩,
      ⟨some 4, .mv (.t 11), none⟩] none)
    (.ret))))

def pf227 : PF := ⟨[.s 4], [], pb227⟩

-- loop.example/g00496/laws.szSlotS
def pl228_0 : PC :=
.seq (.seq (.reg [0, 1, 5, 15] [] [
           ⟨some 12, .mv (.t 5), none⟩,
           ⟨some 13, .mv (.t 0), none⟩,
           ⟨some 14, .len (.t 13), none⟩,
           ⟨some 15, .bin .lss (.t 12) (.t 14), none⟩] none)
         (.cond (.t 15) (.skip)
          (.exit 0)))
        (.seq (.blk 1 (.seq (.reg [0, 1, 5] [(23, 1)] [
             ⟨some 18, .mv (.t 0), none⟩,
             ⟨some 19, .mv (.t 5), none⟩,
             ⟨some 20, .iad 2 (.t 18) (.t 19), none⟩,
             ⟨some 21, .ld true 2 (.t 20), none⟩,
             ⟨some 22, .mv (.t 1), none⟩,
             ⟨some 23, .call 227 [] [(.t 21), (.t 22)], none⟩,
             ⟨some 1, .mv (.t 23), none⟩] none)
           (.seq (.reg [0, 1, 5, 25] [] [
              ⟨some 24, .mv (.t 1), none⟩,
              ⟨some 25, .bin .lss (.t 24) (.c (.v false (.int .i64 0))), none⟩] none)
            (.cond (.t 25) (.seq (.reg [4] [] [
                ⟨some 4, .mv (.c (.v false (.int .i64 (-1)))), none⟩] none)
              (.ret))
             (.skip)))))
         (.reg [0, 1, 5] [] [
           ⟨some 16, .mv (.t 5), none⟩,
           ⟨some 17, .bin .add (.t 16) (.c (.v false (.int .i64 1))), none⟩,
           ⟨some 5, .mv (.t 17), none⟩] none))

def pb228 : PC :=
.seq (.reg [0, 1] [] [
   ⟨some 4, .mv (.c (.v false (.int .i64 0))), none⟩] none)
 (.seq (.reg [0, 1] [] [
    ⟨some 6, .mv (.t 1), none⟩,
    ⟨some 7, .mv (.t 0), none⟩,
    ⟨some 8, .len (.t 7), none⟩,
    ⟨some 9, .bin .sub (.t 6) (.t 8), none⟩,
    ⟨some 1, .mv (.t 9), none⟩] none)
  (.seq (.seq (.reg [0, 1, 11] [] [
      ⟨some 10, .mv (.t 1), none⟩,
      ⟨some 11, .bin .lss (.t 10) (.c (.v false (.int .i64 0))), none⟩] none)
    (.cond (.t 11) (.seq (.reg [4] [] [
        ⟨some 4, .mv (.c (.v false (.int .i64 (-1)))), none⟩] none)
      (.ret))
     (.skip)))
   (.seq (.seq (.reg [0, 1, 5] [] [
       ⟨some 5, .mv (.c (.v false (.int .i64 0))), none⟩] none)
     (.blk 0 (.loop pl228_0)))
    (.seq (.reg [1, 4] [] [
       ⟨some 26, .mv (.t 1), none⟩,
       ⟨some 4, .mv (.t 26), none⟩] none)
     (.ret)))))

def pf228 : PF := ⟨[.s 4], [], pb228⟩

-- loop.example/g00496/laws.szVal
def pb231 : PC :=
.seq (.reg [1, 2] [] [
   ⟨some 2, .box 3 (.t 0), none⟩,
   ⟨some 4, .mv (.c (.v false (.int .i64 0))), none⟩] none)
 (.seq (.reg [1] [] [
    ⟨some 5, .mv (.t 1), none⟩,
    ⟨some 6, .fad (.t 2) 2, none⟩,
    ⟨some 7, .ld false 1 (.t 6), none⟩,
    ⟨some 8, .lens (.t 7), none⟩,
    ⟨some 9, .bin .sub (.t 5) (.t 8), none⟩,
    ⟨some 1, .mv (.t 9), none⟩] none)
  (.seq (.seq (.reg [1, 11] [] [
      ⟨some 10, .mv (.t 1), none⟩,
      ⟨some 11, .bin .lss (.t 10) (.c (.v false (.int .i64 0))), none⟩] none)
    (.cond (.t 11) (.seq (.reg [4] [] [
        ⟨some 4, .mv (.c (.v false (.int .i64 (-1)))), none⟩] none)
      (.ret))
     (.skip)))
   (.seq (.reg [4] [] [
      ⟨some 12, .mv (.t 1), none⟩,
      ⟨some 4, .mv (.t 12), none⟩] none)
    (.ret))))

def pf231 : PF := ⟨[.s 4], [], pb231⟩

-- loop.example/g00496/laws.szValS
def pl232_0 : PC :=
.seq (.seq (.reg [0, 1, 5, 15] [] [
           ⟨some 12, .mv (.t 5), none⟩,
           ⟨some 13, .mv (.t 0), none⟩,
           ⟨some 14, .len (.t 13), none⟩,
           ⟨some 15, .bin .lss (.t 12) (.t 14), none⟩] none)
         (.cond (.t 15) (.skip)
          (.exit 0)))
        (.seq (.blk 1 (.seq (.reg [0, 1, 5] [(23, 1)] [
             ⟨some 18, .mv (.t 0), none⟩,
             ⟨some 19, .mv (.t 5), none⟩,
             ⟨some 20, .iad 3 (.t 18) (.t 19), none⟩,
             ⟨some 21, .ld true 3 (.t 20), none⟩,
             ⟨some 22, .mv (.t 1), none⟩,
             ⟨some 23, .call 231 [] [(.t 21), (.t 22)], none⟩,
             ⟨some 1, .mv (.t 23), none⟩] none)
           (.seq (.reg [0, 1, 5, 25] [] [
              ⟨some 24, .mv (.t 1), none⟩,
              ⟨some 25, .bin .lss (.t 24) (.c (.v false (.int .i64 0))), none⟩] none)
            (.cond (.t 25) (.seq (.reg [4] [] [
                ⟨some 4, .mv (.c (.v false (.int .i64 (-1)))), none⟩] none)
              (.ret))
             (.skip)))))
         (.reg [0, 1, 5] [] [
           ⟨some 16, .mv (.t 5), none⟩,
           ⟨some 17, .bin .add (.t 16) (.c (.v false (.int .i64 1))), none⟩,
           ⟨some 5, .mv (.t 17), none⟩] none))

def pb232 : PC :=
.seq (.reg [0, 1] [] [
   ⟨some 4, .mv (.c (.v false (.int .i64 0))), none⟩] none)
 (.seq (.reg [0, 1] [] [
    ⟨some 6, .mv (.t 1), none⟩,
    ⟨some 7, .mv (.t 0), none⟩,
    ⟨some 8, .len (.t 7), none⟩,
    ⟨some 9, .bin .sub (.t 6) (.t 8), none⟩,
    ⟨some 1, .mv (.t 9), none⟩] none)
  (.seq (.seq (.reg [0, 1, 11] [] [
      ⟨some 10, .mv (.t 1), none⟩,
      ⟨some 11, .bin .lss (.t 10) (.c (.v false (.int .i64 0))), none⟩] none)
    (.cond (.t 11) (.seq (.reg [4] [] [
        ⟨some 4, .mv (.c (.v false (.int .i64 (-1)))), none⟩] none)
      (.ret))
     (.skip)))
   (.seq (.seq (.reg [0, 1, 5] [] [
       ⟨some 5, .mv (.c (.v false (.int .i64 0))), none⟩] none)
     (.blk 0 (.loop pl232_0)))
    (.seq (.reg [1, 4] [] [
       ⟨some 26, .mv (.t 1), none⟩,
       ⟨some 4, .mv (.t 26), none⟩] none)
     (.ret)))))

def pf232 : PF := ⟨[.s 4], [], pb232⟩

-- loop.example/g00496/laws.toChunk
def pb237 : PC :=
.seq (.reg [1, 2] [] [
   ⟨some 1, .box 2 (.t 0), none⟩,
   ⟨some 2, .alloc [(.v false (.int .i64 0)), (.nl 2)], none⟩] none)
 (.seq (.reg [1, 2, 3] [] [
    ⟨some 3, .alloc [(.v false (.int .i64 0)), (.nl 2)], none⟩] none)
  (.seq (.reg [1, 2, 3] [] [
     ⟨some 4, .fad (.t 1) 0, none⟩,
     ⟨some 5, .ld false 1 (.t 4), none⟩,
     ⟨some 6, .fad (.t 3) 0, none⟩,
     ⟨none, .st 1 (.t 6) (.t 5), none⟩] none)
   (.seq (.reg [2, 3] [] [
      ⟨some 7, .fad (.t 1) 1, none⟩,
      ⟨some 8, .ld false 1 (.t 7), none⟩,
      ⟨some 9, .call 254 [] [(.t 8)], none⟩,
      ⟨some 10, .fad (.t 3) 1, none⟩,
      ⟨none, .st 1 (.t 10) (.t 9), none⟩] none)
    (.seq (.reg [2] [] [
       ⟨some 11, .ld true 2 (.t 3), none⟩,
       ⟨none, .st 2 (.t 2) (.t 11), none⟩] none)
     (.ret)))))

def pf237 : PF := ⟨[.b 2 2 true], [], pb237⟩

-- loop.example/g00496/laws.toSlot
def pb253 : PC :=
.seq (.reg [1, 2] [] [
   ⟨some 1, .box 2 (.t 0), none⟩,
   ⟨some 2, .alloc [(.v false (.int .i64 0)), (.nl 3)], none⟩] none)
 (.seq (.reg [1, 2, 3] [] [
    ⟨some 3, .alloc [(.v false (.int .i64 0)), (.nl 3)], none⟩] none)
  (.seq (.reg [1, 2, 3] [] [
     ⟨some 4, .fad (.t 1) 0, none⟩,
     ⟨some 5, .ld false 1 (.t 4), none⟩,
     ⟨some 6, .fad (.t 3) 0, none⟩,
     ⟨none, .st 1 (.t 6) (.t 5), none⟩] none)
   (.seq (.reg [2, 3] [] [
      ⟨some 7, .fad (.t 1) 1, none⟩,
      ⟨some 8, .ld false 1 (.t 7), none⟩,
      ⟨some 9, .call 258 [] [(.t 8)], none⟩,
      ⟨some 10, .fad (.t 3) 1, none⟩,
      ⟨none, .st 1 (.t 10) (.t 9), none⟩] none)
    (.seq (.reg [2] [] [
       ⟨some 11, .ld true 2 (.t 3), none⟩,
       ⟨none, .st 2 (.t 2) (.t 11), none⟩] none)
     (.ret)))))

def pf253 : PF := ⟨[.b 2 2 true], [], pb253⟩

-- loop.example/g00496/laws.toSlotS
def pl254_0 : PC :=
.seq (.seq (.reg [0, 3, 4, 11] [] [
          ⟨some 8, .mv (.t 4), none⟩,
          ⟨some 9, .mv (.t 0), none⟩,
          ⟨some 10, .len (.t 9), none⟩,
          ⟨some 11, .bin .lss (.t 8) (.t 10), none⟩] none)
        (.cond (.t 11) (.skip)
         (.exit 0)))
       (.seq (.blk 1 (.reg [0, 3, 4] [] [
           ⟨some 14, .mv (.t 3), none⟩,
           ⟨some 15, .mv (.t 4), none⟩,
           ⟨some 16, .mv (.t 0), none⟩,
           ⟨some 17, .mv (.t 4), none⟩,
           ⟨some 18, .iad 2 (.t 16) (.t 17), none⟩,
           ⟨some 19, .ld true 2 (.t 18), none⟩,
           ⟨some 20, .call 253 [] [(.t 19)], none⟩,
           ⟨some 21, .iad 2 (.t 14) (.t 15), none⟩,
           ⟨none, .st 2 (.t 21) (.t 20), none⟩] none))
        (.reg [0, 3, 4] [] [
          ⟨some 12, .mv (.t 4), none⟩,
          ⟨some 13, .bin .add (.t 12) (.c (.v false (.int .i64 1))), none⟩,
          ⟨some 4, .mv (.t 13), none⟩] none))

def pb254 : PC :=
.seq (.reg [0] [] [
   ⟨some 2, .mv (.c (.nl 2)), none⟩] none)
 (.seq (.reg [0, 3] [(7, 3)] [
    ⟨some 5, .mv (.t 0), none⟩,
    ⟨some 6, .len (.t 5), none⟩,
    ⟨some 7, .mks 2 32 [.int .i64 0, .sl 3 []] (.t 6), none⟩,
    ⟨some 3, .mv (.t 7), none⟩] none)
  (.seq (.seq (.reg [0, 3, 4] [] [
      ⟨some 4, .mv (.c (.v false (.int .i64 0))), none⟩] none)
    (.blk 0 (.loop pl254_0)))
   (.seq (.reg [2, 3] [] [
      ⟨some 22, .mv (.t 3), none⟩,
      ⟨some 2, .mv (.t 22), none⟩] none)
    (.ret))))

def pf254 : PF := ⟨[.s 2], [], pb254⟩

-- loop.example/g00496/laws.toVal
def pb257 : PC :=
.seq (.reg [1, 2] [] [
   ⟨some 1, .box 3 (.t 0), none⟩,
   ⟨some 2, .alloc [(.v false (.int .i64 0)), (.v false (.int .i64 0)), (.v false (.str ⟨#[]⟩))], none⟩] none)
 (.seq (.reg [1, 2, 3] [] [
    ⟨some 3, .alloc [(.v false (.int .i64 0)), (.v false (.int .i64 0)), (.v false (.str ⟨#[]⟩))], none⟩] none)
  (.seq (.reg [1, 2, 3] [] [
     ⟨some 4, .fad (.t 1) 0, none⟩,
     ⟨some 5, .ld false 1 (.t 4), none⟩,
     ⟨some 6, .fad (.t 3) 0, none⟩,
     ⟨none, .st 1 (.t 6) (.t 5), none⟩] none)
   (.seq (.reg [1, 2, 3] [] [
      ⟨some 7, .fad (.t 1) 1, none⟩,
      ⟨some 8, .ld false 1 (.t 7), none⟩,
      ⟨some 9, .fad (.t 3) 1, none⟩,
      ⟨none, .st 1 (.t 9) (.t 8), none⟩] none)
    (.seq (.reg [2, 3] [] [
       ⟨some 10, .fad (.t 1) 2, none⟩,
       ⟨some 11, .ld false 1 (.t 10), none⟩,
       ⟨some 12, .fad (.t 3) 2, none⟩,
       ⟨none, .st 1 (.t 12) (.t 11), none⟩] none)
     (.seq (.reg [2] [] [
        ⟨some 13, .ld true 3 (.t 3), none⟩,
        ⟨none, .st 3 (.t 2) (.t 13), none⟩] none)
      (.ret))))))

def pf257 : PF := ⟨[.b 2 3 true], [], pb257⟩

-- loop.example/g00496/laws.toValS
def pl258_0 : PC :=
.seq (.seq (.reg [0, 3, 4, 11] [] [
          ⟨some 8, .mv (.t 4), none⟩,
          ⟨some 9, .mv (.t 0), none⟩,
          ⟨some 10, .len (.t 9), none⟩,
          ⟨some 11, .bin .lss (.t 8) (.t 10), none⟩] none)
        (.cond (.t 11) (.skip)
         (.exit 0)))
       (.seq (.blk 1 (.reg [0, 3, 4] [] [
           ⟨some 14, .mv (.t 3), none⟩,
           ⟨some 15, .mv (.t 4), none⟩,
           ⟨some 16, .mv (.t 0), none⟩,
           ⟨some 17, .mv (.t 4), none⟩,
           ⟨some 18, .iad 3 (.t 16) (.t 17), none⟩,
           ⟨some 19, .ld true 3 (.t 18), none⟩,
           ⟨some 20, .call 257 [] [(.t 19)], none⟩,
           ⟨some 21, .iad 3 (.t 14) (.t 15), none⟩,
           ⟨none, .st 3 (.t 21) (.t 20), none⟩] none))
        (.reg [0, 3, 4] [] [
          ⟨some 12, .mv (.t 4), none⟩,
          ⟨some 13, .bin .add (.t 12) (.c (.v false (.int .i64 1))), none⟩,
          ⟨some 4, .mv (.t 13), none⟩] none))

def pb258 : PC :=
.seq (.reg [0] [] [
   ⟨some 2, .mv (.c (.nl 3)), none⟩] none)
 (.seq (.reg [0, 3] [(7, 3)] [
    ⟨some 5, .mv (.t 0), none⟩,
    ⟨some 6, .len (.t 5), none⟩,
    ⟨some 7, .mks 3 32 [.int .i64 0, .int .i64 0, .str ⟨#[]⟩] (.t 6), none⟩,
    ⟨some 3, .mv (.t 7), none⟩] none)
  (.seq (.seq (.reg [0, 3, 4] [] [
      ⟨some 4, .mv (.c (.v false (.int .i64 0))), none⟩] none)
    (.blk 0 (.loop pl258_0)))
   (.seq (.reg [2, 3] [] [
      ⟨some 22, .mv (.t 3), none⟩,
      ⟨some 2, .mv (.t 22), none⟩] none)
    (.ret))))

def pf258 : PF := ⟨[.s 2], [], pb258⟩

-- loop.example/g00496/spec.Stamp
def pb335 : PC :=
.seq (.reg [0, 1] [] [
   ⟨some 4, .mv (.c (.v false (.int .i64 0))), none⟩,
   ⟨some 5, .mv (.c (.v false (.bool false))), none⟩] none)
 (.seq (.seq (.reg [0, 1, 11] [] [
     ⟨some 6, .mv (.t 0), none⟩,
     ⟨some 7, .bin .neq (.t 6) (.c (.v false (.int .i64 (-1)))), none⟩,
     ⟨some 8, .mv (.t 7), none⟩,
     ⟨some 9, .mv (.t 1), some (8, false)⟩,
     ⟨some 10, .bin .lss (.t 9) (.c (.v false (.int .i64 1))), some (8, false)⟩,
     ⟨some 11, .pick (.t 8) (.c (.v false (.bool true))) (.t 10), none⟩] none)
   (.cond (.t 11) (.seq (.reg [4, 5] [] [
       ⟨some 12, .mv (.t 0), none⟩,
       ⟨some 4, .mv (.t 12), none⟩,
       ⟨some 5, .mv (.c (.v false (.bool false))), none⟩] none)
     (.ret))
    (.skip)))
  (.seq (.reg [4, 5] [] [
     ⟨some 13, .mv (.t 1), none⟩,
     ⟨some 4, .mv (.t 13), none⟩,
     ⟨some 5, .mv (.c (.v false (.bool true))), none⟩] none)
   (.ret)))

def pf335 : PF := ⟨[.s 4, .s 5], [], pb335⟩

-- loop.example/g00496/spec.StampSlot
def pb336 : PC :=
.seq (.reg [1, 2, 3, 6] [] [
   ⟨some 3, .box 2 (.t 0), none⟩,
   ⟨some 6, .alloc [(.v false (.int .i64 0)), (.nl 2)], none⟩,
   ⟨some 7, .mv (.c (.v false (.bool false))), none⟩] none)
 (.seq (.reg [1, 2, 3, 6, 8] [] [
    ⟨some 11, .ld true 2 (.t 3), none⟩,
    ⟨some 12, .call 359 [] [(.t 11)], none⟩,
    ⟨some 8, .alloc [(.v false (.int .i64 0)), (.nl 2)], none⟩,
    ⟨none, .st 2 (.t 8) (.t 12), none⟩] none)
  (.seq (.seq (.reg [1, 2, 3, 6, 8, 19] [] [
      ⟨some 13, .mv (.t 1), none⟩,
      ⟨some 14, .fad (.t 3) 1, none⟩,
      ⟨some 15, .ld false 1 (.t 14), none⟩,
      ⟨some 16, .len (.t 15), none⟩,
      ⟨some 17, .bin .sub (.t 16) (.c (.v false (.int .i64 1))), none⟩,
      ⟨some 18, .call 377 [] [(.t 13), (.c (.v false (.int .i64 0))), (.t 17)], none⟩,
      ⟨some 19, .un .not (.t 18), none⟩] none)
    (.cond (.t 19) (.seq (.reg [6, 7] [] [
        ⟨some 20, .ld true 2 (.t 8), none⟩,
        ⟨none, .st 2 (.t 6) (.t 20), none⟩,
        ⟨some 7, .mv (.c (.v false (.bool false))), none⟩] none)
      (.ret))
     (.skip)))
   (.seq (.reg [1, 6, 8, 9, 10] [(29, 9)] [
      ⟨some 22, .fad (.t 3) 1, none⟩,
      ⟨some 23, .ld false 1 (.t 22), none⟩,
      ⟨some 24, .mv (.t 1), none⟩,
      ⟨some 25, .iad 2 (.t 23) (.t 24), none⟩,
      ⟨some 26, .fad (.t 25) 0, none⟩,
      ⟨some 27, .ld false 1 (.t 26), none⟩,
      ⟨some 28, .mv (.t 2), none⟩,
      ⟨some 29, .call 335 [] [(.t 27), (.t 28)], none⟩,
      ⟨some 21, .mv (.t 29), none⟩,
      ⟨some 30, .ext (.t 21) 0, none⟩,
      ⟨some 31, .ext (.t 21) 1, none⟩,
      ⟨some 9, .mv (.t 30), none⟩,
      ⟨some 10, .mv (.t 31), none⟩] none)
    (.seq (.reg [6, 8, 9, 10] [] [
       ⟨some 32, .fad (.t 8) 1, none⟩,
       ⟨some 33, .ld false 1 (.t 32), none⟩,
       ⟨some 34, .mv (.t 1), none⟩,
       ⟨some 35, .mv (.t 9), none⟩,
       ⟨some 36, .iad 2 (.t 33) (.t 34), none⟩,
       ⟨some 37, .fad (.t 36) 0, none⟩,
       ⟨none, .st 1 (.t 37) (.t 35), none⟩] none)
     (.seq (.reg [6, 7, 9] [] [
        ⟨some 38, .ld true 2 (.t 8), none⟩,
        ⟨some 39, .mv (.t 10), none⟩,
        ⟨none, .st 2 (.t 6) (.t 38), none⟩,
        ⟨some 7, .mv (.t 39), none⟩] none)
      (.ret))))))

def pf336 : PF := ⟨[.b 6 2 true, .s 7], [], pb336⟩

-- loop.example/g00496/spec.l15Copy
def pl359_0 : PC :=
.seq (.seq (.reg [1, 2, 3, 4, 13] [] [
          ⟨some 9, .mv (.t 4), none⟩,
          ⟨some 10, .fad (.t 1) 1, none⟩,
          ⟨some 11, .ld false 1 (.t 10), none⟩,
          ⟨some 12, .len (.t 11), none⟩,
          ⟨some 13, .bin .lss (.t 9) (.t 12), none⟩] none)
        (.cond (.t 13) (.skip)
         (.exit 0)))
       (.seq (.blk 1 (.reg [1, 2, 3, 4] [] [
           ⟨some 16, .fad (.t 3) 1, none⟩,
           ⟨some 17, .ld false 1 (.t 16), none⟩,
           ⟨some 18, .fad (.t 1) 1, none⟩,
           ⟨some 19, .ld false 1 (.t 18), none⟩,
           ⟨some 20, .mv (.t 4), none⟩,
           ⟨some 21, .iad 2 (.t 19) (.t 20), none⟩,
           ⟨some 22, .fad (.t 21) 0, none⟩,
           ⟨some 23, .ld false 1 (.t 22), none⟩,
           ⟨some 24, .bsl 3 [] 0 [], none⟩,
           ⟨some 25, .fad (.t 1) 1, none⟩,
           ⟨some 26, .ld false 1 (.t 25), none⟩,
           ⟨some 27, .mv (.t 4), none⟩,
           ⟨some 28, .iad 2 (.t 26) (.t 27), none⟩,
           ⟨some 29, .fad (.t 28) 1, none⟩,
           ⟨some 30, .ld false 1 (.t 29), none⟩,
           ⟨some 31, .app 3 32 (.t 24) (.t 30), none⟩,
           ⟨some 32, .build [(.v false (.int .i64 0)), (.nl 3)] [(0, 1, (.t 23)), (1, 1, (.t 31))], none⟩,
           ⟨some 33, .bsl 2 [.int .i64 0, .sl 3 []] 1 [(0, (.t 32))], none⟩,
           ⟨some 34, .app 2 32 (.t 17) (.t 33), none⟩,
           ⟨some 35, .fad (.t 3) 1, none⟩,
           ⟨none, .st 1 (.t 35) (.t 34), none⟩] (some [(1, 8), (3, 8), (5, 8), (7, 8), (8, 10), (8, 12), (8, 14), (1, 15), (3, 15), (5, 15), (7, 15), (1, 17)])))
        (.reg [1, 2, 3, 4] [] [
          ⟨some 14, .mv (.t 4), none⟩,
          ⟨some 15, .bin .add (.t 14) (.c (.v false (.int .i64 1))), none⟩,
          ⟨some 4, .mv (.t 15), none⟩] none))

def pb359 : PC :=
.seq (.reg [1, 2] [] [
   ⟨some 1, .box 2 (.t 0), none⟩,
   ⟨some 2, .alloc [(.v false (.int .i64 0)), (.nl 2)], none⟩] none)
 (.seq (.reg [1, 2, 3] [] [
    ⟨some 5, .fad (.t 1) 0, none⟩,
    ⟨some 6, .ld false 1 (.t 5), none⟩,
    ⟨some 7, .bsl 2 [] 0 [], none⟩,
    ⟨some 8, .build [(.v false (.int .i64 0)), (.nl 2)] [(0, 1, (.t 6)), (1, 1, (.t 7))], none⟩,
    ⟨some 3, .alloc [(.v false (.int .i64 0)), (.nl 2)], none⟩,
    ⟨none, .st 2 (.t 3) (.t 8), none⟩] none)
  (.seq (.seq (.reg [1, 2, 3, 4] [] [
      ⟨some 4, .mv (.c (.v false (.int .i64 0))), none⟩] none)
    (.blk 0 (.loop pl359_0)))
   (.seq (.reg [2] [] [
      ⟨some 36, .ld true 2 (.t 3), none⟩,
      ⟨none, .st 2 (.t 2) (.t 36), none⟩] none)
    (.ret))))

def pf359 : PF := ⟨[.b 2 2 true], [], pb359⟩

-- loop.example/g00496/spec.l1In
def pb377 : PC :=
.seq (.reg [0, 1, 2] [] [
   ⟨some 6, .mv (.c (.v false (.bool false))), none⟩] none)
 (.seq (.reg [6] [] [
    ⟨some 7, .mv (.t 0), none⟩,
    ⟨some 8, .mv (.t 1), none⟩,
    ⟨some 9, .bin .geq (.t 7) (.t 8), none⟩,
    ⟨some 10, .mv (.t 9), none⟩,
    ⟨some 11, .mv (.t 0), some (10, true)⟩,
    ⟨some 12, .mv (.t 2), some (10, true)⟩,
    ⟨some 13, .bin .leq (.t 11) (.t 12), some (10, true)⟩,
    ⟨some 14, .pick (.t 10) (.t 13) (.c (.v false (.bool false))), none⟩,
    ⟨some 6, .mv (.t 14), none⟩] none)
  (.ret))

def pf377 : PF := ⟨[.s 6], [], pb377⟩

end Go.Proofs.Ytloninhfmfggaaa.OM
