/- The texts of the functions, as the own machine runs them. -/
import Derived.Test.YtloninhfmfggaaaOMDef
set_option linter.all false
namespace Go.Proofs.Ytloninhfmfggaaa.OM
set_option maxRecDepth 100000

-- loop.example/g00496/impl.Reserve
def pb42 : PC :=
.seq (.reg [1, 2] [] [
   ⟨some 1, .box 2 (.t 0), none⟩,
   ⟨some 2, .alloc [(.v false (.int .i64 0)), (.nl 2)], none⟩,
   ⟨some 3, .mv (.c (.v false (.int .i64 0))), none⟩] none)
 (.seq (.reg [1, 2, 4] [] [
    ⟨some 5, .ld true 2 (.t 1), none⟩,
    ⟨some 6, .call 70 [] [(.t 5)], none⟩,
    ⟨some 4, .alloc [(.v false (.int .i64 0)), (.nl 2)], none⟩,
    ⟨none, .st 2 (.t 4) (.t 6), none⟩] none)
  (.seq (.seq (.reg [1, 2, 4, 11] [] [
      ⟨some 7, .ld true 2 (.t 1), none⟩,
      ⟨some 8, .fad (.t 1) 0, none⟩,
      ⟨some 9, .ld false 1 (.t 8), none⟩,
      ⟨some 10, .call 78 [] [(.t 7), (.t 9)], none⟩,
      ⟨some 11, .un .not (.t 10), none⟩] none)
    (.cond (.t 11) (.seq (.reg [2, 3] [] [
        ⟨some 12, .ld true 2 (.t 4), none⟩,
        ⟨none, .st 2 (.t 2) (.t 12), none⟩,
        ⟨some 3, .mv (.c (.v false (.int .i64 (-1)))), none⟩] none)
      (.ret))
     (.skip)))
   (.seq (.reg [1, 2, 4] [] [
      ⟨some 13, .fad (.t 4) 0, none⟩,
      ⟨some 14, .ld false 1 (.t 13), none⟩,
      ⟨some 15, .bin .add (.t 14) (.c (.v false (.int .i64 1))), none⟩,
      ⟨some 16, .fad (.t 4) 0, none⟩,
      ⟨none, .st 1 (.t 16) (.t 15), none⟩] none)
    (.seq (.reg [1, 2, 3] [] [
       ⟨some 17, .ld true 2 (.t 4), none⟩,
       ⟨some 18, .fad (.t 1) 0, none⟩,
       ⟨some 19, .ld false 1 (.t 18), none⟩,
       ⟨none, .st 2 (.t 2) (.t 17), none⟩,
       ⟨some 3, .mv (.t 19), none⟩] (some [(2, 3)]))
     (.ret)))))

def pf42 : PF := ⟨[.b 2 2 true, .s 3], [], pb42⟩

-- loop.example/g00496/impl.cloneChunk
def pl70_0 : PC :=
.seq (.reg [1, 2, 3, 10, 11, 12, 13] [] [
         ⟨some 13, .bin .lss (.t 12) (.t 11), none⟩] none)
       (.seq (.cond (.t 13) (.skip)
         (.exit 0))
        (.seq (.blk 1 (.seq (.reg [1, 2, 3, 5, 10, 11, 12] [] [
             ⟨some 14, .iad 2 (.t 10) (.t 12), none⟩,
             ⟨some 15, .ld true 2 (.t 14), none⟩,
             ⟨some 5, .alloc [(.v false (.int .i64 0)), (.nl 3)], none⟩,
             ⟨none, .st 2 (.t 5) (.t 15), none⟩] none)
           (.reg [1, 2, 3, 10, 11, 12] [] [
             ⟨some 16, .fad (.t 3) 1, none⟩,
             ⟨some 17, .ld false 1 (.t 16), none⟩,
             ⟨some 18, .fad (.t 5) 0, none⟩,
             ⟨some 19, .ld false 1 (.t 18), none⟩,
             ⟨some 20, .fad (.t 5) 1, none⟩,
             ⟨some 21, .ld false 1 (.t 20), none⟩,
             ⟨some 22, .call 76 [] [(.t 21)], none⟩,
             ⟨some 23, .build [(.v false (.int .i64 0)), (.nl 3)] [(0, 1, (.t 19)), (1, 1, (.t 22))], none⟩,
             ⟨some 24, .bsl 2 [.int .i64 0, .sl 3 []] 1 [(0, (.t 23))], none⟩,
             ⟨some 25, .app 2 32 (.t 17) (.t 24), none⟩,
             ⟨some 26, .fad (.t 3) 1, none⟩,
             ⟨none, .st 1 (.t 26) (.t 25), none⟩] (some [(1, 6), (3, 6), (1, 8)]))))
         (.reg [1, 2, 3, 10, 11, 12] [] [
           ⟨some 27, .bin .add (.t 12) (.c (.v false (.int .i64 1))), none⟩,
           ⟨some 12, .mv (.t 27), none⟩] none)))

def pb70 : PC :=
.seq (.reg [1, 2] [] [
   ⟨some 1, .box 2 (.t 0), none⟩,
   ⟨some 2, .alloc [(.v false (.int .i64 0)), (.nl 2)], none⟩] none)
 (.seq (.reg [1, 2, 3] [] [
    ⟨some 6, .fad (.t 1) 0, none⟩,
    ⟨some 7, .ld false 1 (.t 6), none⟩,
    ⟨some 8, .build [(.v false (.int .i64 0)), (.nl 2)] [(0, 1, (.t 7))], none⟩,
    ⟨some 3, .alloc [(.v false (.int .i64 0)), (.nl 2)], none⟩,
    ⟨none, .st 2 (.t 3) (.t 8), none⟩] none)
  (.seq (.seq (.reg [1, 2, 3, 10, 11, 12] [] [
      ⟨some 9, .fad (.t 1) 1, none⟩,
      ⟨some 10, .ld false 1 (.t 9), none⟩,
      ⟨some 11, .len (.t 10), none⟩,
      ⟨some 12, .mv (.c (.v false (.int .i64 0))), none⟩] none)
    (.blk 0 (.loop pl70_0)))
   (.seq (.reg [2] [] [
      ⟨some 28, .ld true 2 (.t 3), none⟩,
      ⟨none, .st 2 (.t 2) (.t 28), none⟩] none)
    (.ret))))

def pf70 : PF := ⟨[.b 2 2 true], [], pb70⟩

-- loop.example/g00496/impl.cloneVals
def pb76 : PC :=
.seq (.reg [0] [] [
   ⟨some 2, .mv (.c (.nl 3)), none⟩] none)
 (.seq (.reg [2] [(5, 2)] [
    ⟨some 3, .bsl 3 [] 0 [], none⟩,
    ⟨some 4, .mv (.t 0), none⟩,
    ⟨some 5, .app 3 32 (.t 3) (.t 4), none⟩,
    ⟨some 2, .mv (.t 5), none⟩] none)
  (.ret))

def pf76 : PF := ⟨[.s 2], [], pb76⟩

-- loop.example/g00496/impl.hasSlot
def pb78 : PC :=
.seq (.reg [1, 2] [] [
   ⟨some 2, .box 2 (.t 0), none⟩,
   ⟨some 4, .mv (.c (.v false (.bool false))), none⟩] none)
 (.seq (.reg [4] [] [
    ⟨some 5, .mv (.t 1), none⟩,
    ⟨some 6, .bin .geq (.t 5) (.c (.v false (.int .i64 0))), none⟩,
    ⟨some 7, .mv (.t 6), none⟩,
    ⟨some 8, .mv (.t 1), some (7, true)⟩,
    ⟨some 9, .fad (.t 2) 1, some (7, true)⟩,
    ⟨some 10, .ld false 1 (.t 9), some (7, true)⟩,
    ⟨some 11, .len (.t 10), some (7, true)⟩,
    ⟨some 12, .bin .lss (.t 8) (.t 11), some (7, true)⟩,
    ⟨some 13, .pick (.t 7) (.t 12) (.c (.v false (.bool false))), none⟩,
    ⟨some 4, .mv (.t 13), none⟩] none)
  (.ret))

def pf78 : PF := ⟨[.s 4], [], pb78⟩

-- loop.example/g00496/laws.FnExactReserve
def pb121 : PC :=
.seq (.reg [1] [] [
   ⟨some 1, .box 2 (.t 0), none⟩,
   ⟨some 2, .mv (.c (.v false (.bool false))), none⟩] none)
 (.seq (.reg [1, 3] [] [
    ⟨some 3, .mv (.c (.v false (.int .i64 1048576))), none⟩] none)
  (.seq (.reg [1, 3] [(16, 3)] [
     ⟨some 14, .ld true 2 (.t 1), none⟩,
     ⟨some 15, .mv (.t 3), none⟩,
     ⟨some 16, .call 213 [] [(.t 14), (.t 15)], none⟩,
     ⟨some 3, .mv (.t 16), none⟩] none)
   (.seq (.seq (.reg [1, 18] [] [
       ⟨some 17, .mv (.t 3), none⟩,
       ⟨some 18, .bin .lss (.t 17) (.c (.v false (.int .i64 0))), none⟩] none)
     (.cond (.t 18) (.seq (.reg [2] [] [
         ⟨some 2, .mv (.c (.v false (.bool true))), none⟩] none)
       (.ret))
      (.skip)))
    (.seq (.reg [1, 4, 5] [(22, 5)] [
       ⟨some 20, .ld true 2 (.t 1), none⟩,
       ⟨some 21, .call 237 [] [(.t 20)], none⟩,
       ⟨some 22, .call 323 [] [(.t 21)], none⟩,
       ⟨some 19, .mv (.t 22), none⟩,
       ⟨some 23, .ext (.t 19) 0, none⟩,
       ⟨some 24, .ext (.t 19) 1, none⟩,
       ⟨some 4, .alloc [(.v false (.int .i64 0)), (.nl 2)], none⟩,
       ⟨none, .st 2 (.t 4) (.t 23), none⟩,
       ⟨some 5, .mv (.t 24), none⟩] none)
     (.seq (.reg [1, 4, 5, 6] [] [
        ⟨some 25, .ld true 2 (.t 1), none⟩,
        ⟨some 26, .call 237 [] [(.t 25)], none⟩,
        ⟨some 6, .alloc [(.v false (.int .i64 0)), (.nl 2)], none⟩,
        ⟨none, .st 2 (.t 6) (.t 26), none⟩] none)
      (.seq (.reg [1, 4, 5, 6, 7, 8] [(29, 8)] [
         ⟨some 28, .ld true 2 (.t 6), none⟩,
         ⟨some 29, .call 42 [] [(.t 28)], none⟩,
         ⟨some 27, .mv (.t 29), none⟩,
         ⟨some 30, .ext (.t 27) 0, none⟩,
         ⟨some 31, .ext (.t 27) 1, none⟩,
         ⟨some 7, .alloc [(.v false (.int .i64 0)), (.nl 2)], none⟩,
         ⟨none, .st 2 (.t 7) (.t 30), none⟩,
         ⟨some 8, .mv (.t 31), none⟩] none)
       (.seq (.seq (.reg [1, 4, 5, 6, 7, 8, 40] [] [
           ⟨some 32, .ld true 2 (.t 7), none⟩,
           ⟨some 33, .ld true 2 (.t 4), none⟩,
           ⟨some 34, .call 145 [] [(.t 32), (.t 33)], none⟩,
           ⟨some 35, .un .not (.t 34), none⟩,
           ⟨some 36, .mv (.t 35), none⟩,
           ⟨some 37, .mv (.t 8), some (36, false)⟩,
           ⟨some 38, .mv (.t 5), some (36, false)⟩,
           ⟨some 39, .bin .neq (.t 37) (.t 38), some (36, false)⟩,
           ⟨some 40, .pick (.t 36) (.c (.v false (.bool true))) (.t 39), none⟩] none)
         (.cond (.t 40) (.seq (.reg [2] [] [
             ⟨some 2, .mv (.c (.v false (.bool false))), none⟩] none)
           (.ret))
          (.skip)))
        (.seq (.seq (.reg [1, 4, 5, 6, 7, 8, 45] [] [
            ⟨some 41, .ld true 2 (.t 6), none⟩,
            ⟨some 42, .ld true 2 (.t 1), none⟩,
            ⟨some 43, .call 237 [] [(.t 42)], none⟩,
            ⟨some 44, .call 145 [] [(.t 41), (.t 43)], none⟩,
            ⟨some 45, .un .not (.t 44), none⟩] (some [(0, 2)]))
          (.cond (.t 45) (.seq (.reg [2] [] [
              ⟨some 2, .mv (.c (.v false (.bool false))), none⟩] none)
            (.ret))
           (.skip)))
         (.seq (.reg [1, 4, 5, 6, 7, 8, 9] [] [
            ⟨some 9, .mv (.c (.v false (.int .i64 1))), none⟩] none)
          (.seq (.reg [1, 4, 5, 7, 8, 9] [(48, 9)] [
             ⟨some 46, .ld true 2 (.t 6), none⟩,
             ⟨some 47, .mv (.t 9), none⟩,
             ⟨some 48, .call 185 [0] [(.t 46), (.t 47)], none⟩,
             ⟨some 9, .mv (.t 48), none⟩] none)
           (.seq (.seq (.reg [1, 4, 5, 7, 61] [] [
               ⟨some 49, .mv (.t 9), none⟩,
               ⟨some 50, .bin .lss (.t 49) (.c (.v false (.int .i64 0))), none⟩,
               ⟨some 51, .mv (.t 50), none⟩,
               ⟨some 52, .ld true 2 (.t 7), some (51, false)⟩,
               ⟨some 53, .ld true 2 (.t 4), some (51, false)⟩,
               ⟨some 54, .call 145 [] [(.t 52), (.t 53)], some (51, false)⟩,
               ⟨some 55, .un .not (.t 54), some (51, false)⟩,
               ⟨some 56, .pick (.t 51) (.c (.v false (.bool true))) (.t 55), none⟩,
               ⟨some 57, .mv (.t 56), none⟩,
               ⟨some 58, .mv (.t 8), some (57, false)⟩,
               ⟨some 59, .mv (.t 5), some (57, false)⟩,
               ⟨some 60, .bin .neq (.t 58) (.t 59), some (57, false)⟩,
               ⟨some 61, .pick (.t 57) (.c (.v false (.bool true))) (.t 60), none⟩] none)
             (.cond (.t 61) (.seq (.reg [2] [] [
                 ⟨some 2, .mv (.c (.v false (.bool false))), none⟩] none)
               (.ret))
              (.skip)))
            (.seq (.reg [1, 4, 5, 7, 10] [] [
               ⟨some 10, .mv (.c (.v false (.int .i64 1))), none⟩] none)
             (.seq (.reg [1, 4, 5, 7, 10] [(64, 10)] [
                ⟨some 62, .ld true 2 (.t 7), none⟩,
                ⟨some 63, .mv (.t 10), none⟩,
                ⟨some 64, .call 185 [0] [(.t 62), (.t 63)], none⟩,
                ⟨some 10, .mv (.t 64), none⟩] none)
              (.seq (.reg [1, 4, 5, 7, 10, 11] [] [
                 ⟨some 11, .mv (.c (.v false (.int .i64 1))), none⟩] none)
               (.seq (.reg [1, 4, 5, 7, 10, 11] [(67, 11)] [
                  ⟨some 65, .ld true 2 (.t 7), none⟩,
                  ⟨some 66, .mv (.t 11), none⟩,
                  ⟨some 67, .call 170 [] [(.t 65), (.t 66)], none⟩,
                  ⟨some 11, .mv (.t 67), none⟩] none)
                (.seq (.seq (.reg [1, 4, 5, 7, 10, 11, 69] [] [
                    ⟨some 68, .mv (.t 11), none⟩,
                    ⟨some 69, .bin .lss (.t 68) (.c (.v false (.int .i64 0))), none⟩] none)
                  (.cond (.t 69) (.seq (.reg [2] [] [
                      ⟨some 2, .mv (.c (.v false (.bool false))), none⟩] none)
                    (.ret))
                   (.skip)))
                 (.seq (.seq (.reg [1, 4, 5, 7, 10, 72] [] [
                     ⟨some 70, .mv (.t 11), none⟩,
                     ⟨some 71, .mv (.t 10), none⟩,
                     ⟨some 72, .bin .neq (.t 70) (.t 71), none⟩] none)
                   (.cond (.t 72) (.seq (.reg [2] [] [
                       ⟨some 2, .mv (.c (.v false (.bool false))), none⟩] none)
                     (.ret))
                    (.skip)))
                  (.seq (.reg [4, 5, 7, 10, 12, 13] [(76, 13)] [
                     ⟨some 74, .ld true 2 (.t 1), none⟩,
                     ⟨some 75, .call 237 [] [(.t 74)], none⟩,
                     ⟨some 76, .call 42 [] [(.t 75)], none⟩,
                     ⟨some 73, .mv (.t 76), none⟩,
                     ⟨some 77, .ext (.t 73) 0, none⟩,
                     ⟨some 78, .ext (.t 73) 1, none⟩,
                     ⟨some 12, .alloc [(.v false (.int .i64 0)), (.nl 2)], none⟩,
                     ⟨none, .st 2 (.t 12) (.t 77), none⟩,
                     ⟨some 13, .mv (.t 78), none⟩] none)
                   (.seq (.seq (.reg [7, 10, 87] [] [
                       ⟨some 79, .ld true 2 (.t 12), none⟩,
                       ⟨some 80, .ld true 2 (.t 4), none⟩,
                       ⟨some 81, .call 145 [] [(.t 79), (.t 80)], none⟩,
                       ⟨some 82, .un .not (.t 81), none⟩,
                       ⟨some 83, .mv (.t 82), none⟩,
                       ⟨some 84, .mv (.t 13), some (83, false)⟩,
                       ⟨some 85, .mv (.t 5), some (83, false)⟩,
                       ⟨some 86, .bin .neq (.t 84) (.t 85), some (83, false)⟩,
                       ⟨some 87, .pick (.t 83) (.c (.v false (.bool true))) (.t 86), none⟩] none)
                     (.cond (.t 87) (.seq (.reg [2] [] [
                         ⟨some 2, .mv (.c (.v false (.bool false))), none⟩] none)
                       (.ret))
                      (.skip)))
                    (.seq (.reg [7, 10, 11] [] [
                       ⟨some 11, .mv (.c (.v false (.int .i64 1))), none⟩] none)
                     (.seq (.reg [10, 11] [(90, 11)] [
                        ⟨some 88, .ld true 2 (.t 7), none⟩,
                        ⟨some 89, .mv (.t 11), none⟩,
                        ⟨some 90, .call 170 [] [(.t 88), (.t 89)], none⟩,
                        ⟨some 11, .mv (.t 90), none⟩] none)
                      (.seq (.seq (.reg [10, 11, 92] [] [
                          ⟨some 91, .mv (.t 11), none⟩,
                          ⟨some 92, .bin .lss (.t 91) (.c (.v false (.int .i64 0))), none⟩] none)
                        (.cond (.t 92) (.seq (.reg [2] [] [
                            ⟨some 2, .mv (.c (.v false (.bool false))), none⟩] none)
                          (.ret))
                         (.skip)))
                       (.seq (.seq (.reg [95] [] [
                           ⟨some 93, .mv (.t 11), none⟩,
                           ⟨some 94, .mv (.t 10), none⟩,
                           ⟨some 95, .bin .neq (.t 93) (.t 94), none⟩] none)
                         (.cond (.t 95) (.seq (.reg [2] [] [
                             ⟨some 2, .mv (.c (.v false (.bool false))), none⟩] none)
                           (.ret))
                          (.skip)))
                        (.seq (.reg [2] [] [
                           ⟨some 2, .mv (.c (.v false (.bool true))), none⟩] none)
                         (.ret)))))))))))))))))))))))))

def pf121 : PF := ⟨[.s 2], [], pb121⟩

-- loop.example/g00496/laws.eqChunk
def pb145 : PC :=
.seq (.reg [2, 3] [] [
   ⟨some 2, .box 2 (.t 0), none⟩,
   ⟨some 3, .box 2 (.t 1), none⟩,
   ⟨some 4, .mv (.c (.v false (.bool false))), none⟩] none)
 (.seq (.seq (.reg [2, 3, 9] [] [
     ⟨some 5, .fad (.t 2) 0, none⟩,
     ⟨some 6, .ld false 1 (.t 5), none⟩,
     ⟨some 7, .fad (.t 3) 0, none⟩,
     ⟨some 8, .ld false 1 (.t 7), none⟩,
     ⟨some 9, .bin .neq (.t 6) (.t 8), none⟩] none)
   (.cond (.t 9) (.seq (.reg [4] [] [
       ⟨some 4, .mv (.c (.v false (.bool false))), none⟩] none)
     (.ret))
    (.skip)))
  (.seq (.seq (.reg [15] [] [
      ⟨some 10, .fad (.t 2) 1, none⟩,
      ⟨some 11, .ld false 1 (.t 10), none⟩,
      ⟨some 12, .fad (.t 3) 1, none⟩,
      ⟨some 13, .ld false 1 (.t 12), none⟩,
      ⟨some 14, .call 162 [] [(.t 11), (.t 13)], none⟩,
      ⟨some 15, .un .not (.t 14), none⟩] none)
    (.cond (.t 15) (.seq (.reg [4] [] [
        ⟨some 4, .mv (.c (.v false (.bool false))), none⟩] none)
      (.ret))
     (.skip)))
   (.seq (.reg [4] [] [
      ⟨some 4, .mv (.c (.v false (.bool true))), none⟩] none)
    (.ret))))

def pf145 : PF := ⟨[.s 4], [], pb145⟩

-- loop.example/g00496/laws.eqSlot
def pb161 : PC :=
.seq (.reg [2, 3] [] [
   ⟨some 2, .box 2 (.t 0), none⟩,
   ⟨some 3, .box 2 (.t 1), none⟩,
   ⟨some 4, .mv (.c (.v false (.bool false))), none⟩] none)
 (.seq (.seq (.reg [2, 3, 9] [] [
     ⟨some 5, .fad (.t 2) 0, none⟩,
     ⟨some 6, .ld false 1 (.t 5), none⟩,
     ⟨some 7, .fad (.t 3) 0, none⟩,
     ⟨some 8, .ld false 1 (.t 7), none⟩,
     ⟨some 9, .bin .neq (.t 6) (.t 8), none⟩] none)
   (.cond (.t 9) (.seq (.reg [4] [] [
       ⟨some 4, .mv (.c (.v false (.bool false))), none⟩] none)
     (.ret))
    (.skip)))
  (.seq (.seq (.reg [15] [] [
      ⟨some 10, .fad (.t 2) 1, none⟩,
      ⟨some 11, .ld false 1 (.t 10), none⟩,
      ⟨some 12, .fad (.t 3) 1, none⟩,
      ⟨some 13, .ld false 1 (.t 12), none⟩,
      ⟨some 14, .call 166 [] [(.t 11), (.t 13)], none⟩,
      ⟨some 15, .un .not (.t 14), none⟩] none)
    (.cond (.t 15) (.seq (.reg [4] [] [
        ⟨some 4, .mv (.c (.v false (.bool false))), none⟩] none)
      (.ret))
     (.skip)))
   (.seq (.reg [4] [] [
      ⟨some 4, .mv (.c (.v false (.bool true))), none⟩] none)
    (.ret))))

def pf161 : PF := ⟨[.s 4], [], pb161⟩

-- loop.example/g00496/laws.eqSlotS
def pl162_0 : PC :=
.seq (.seq (.reg [0, 1, 5, 14] [] [
          ⟨some 11, .mv (.t 5), none⟩,
          ⟨some 12, .mv (.t 0), none⟩,
          ⟨some 13, .len (.t 12), none⟩,
          ⟨some 14, .bin .lss (.t 11) (.t 13), none⟩] none)
        (.cond (.t 14) (.skip)
         (.exit 0)))
       (.seq (.blk 1 (.seq (.reg [0, 1, 5, 26] [] [
            ⟨some 17, .mv (.t 0), none⟩,
            ⟨some 18, .mv (.t 5), none⟩,
            ⟨some 19, .iad 2 (.t 17) (.t 18), none⟩,
            ⟨some 20, .ld true 2 (.t 19), none⟩,
            ⟨some 21, .mv (.t 1), none⟩,
            ⟨some 22, .mv (.t 5), none⟩,
            ⟨some 23, .iad 2 (.t 21) (.t 22), none⟩,
            ⟨some 24, .ld true 2 (.t 23), none⟩,
            ⟨some 25, .call 161 [] [(.t 20), (.t 24)], none⟩,
            ⟨some 26, .un .not (.t 25), none⟩] (some []))
          (.cond (.t 26) (.seq (.reg [4] [] [
              ⟨some 4, .mv (.c (.v false (.bool false))), none⟩] none)
            (.ret))
           (.skip))))
        (.reg [0, 1, 5] [] [
          ⟨some 15, .mv (.t 5), none⟩,
          ⟨some 16, .bin .add (.t 15) (.c (.v false (.int .i64 1))), none⟩,
          ⟨some 5, .mv (.t 16), none⟩] none))

def pb162 : PC :=
.seq (.reg [0, 1] [] [
   ⟨some 4, .mv (.c (.v false (.bool false))), none⟩] none)
 (.seq (.seq (.reg [0, 1, 10] [] [
     ⟨some 6, .mv (.t 0), none⟩,
     ⟨some 7, .len (.t 6), none⟩,
     ⟨some 8, .mv (.t 1), none⟩,
     ⟨some 9, .len (.t 8), none⟩,
     ⟨some 10, .bin .neq (.t 7) (.t 9), none⟩] none)
   (.cond (.t 10) (.seq (.reg [4] [] [
       ⟨some 4, .mv (.c (.v false (.bool false))), none⟩] none)
     (.ret))
    (.skip)))
  (.seq (.seq (.reg [0, 1, 5] [] [
      ⟨some 5, .mv (.c (.v false (.int .i64 0))), none⟩] none)
    (.blk 0 (.loop pl162_0)))
   (.seq (.reg [4] [] [
      ⟨some 4, .mv (.c (.v false (.bool true))), none⟩] none)
    (.ret))))

def pf162 : PF := ⟨[.s 4], [], pb162⟩

-- loop.example/g00496/laws.eqVal
def pb165 : PC :=
.seq (.reg [2, 3] [] [
   ⟨some 2, .box 3 (.t 0), none⟩,
   ⟨some 3, .box 3 (.t 1), none⟩,
   ⟨some 4, .mv (.c (.v false (.bool false))), none⟩] none)
 (.seq (.seq (.reg [2, 3, 9] [] [
     ⟨some 5, .fad (.t 2) 0, none⟩,
     ⟨some 6, .ld false 1 (.t 5), none⟩,
     ⟨some 7, .fad (.t 3) 0, none⟩,
     ⟨some 8, .ld false 1 (.t 7), none⟩,
     ⟨some 9, .bin .neq (.t 6) (.t 8), none⟩] none)
   (.cond (.t 9) (.seq (.reg [4] [] [
       ⟨some 4, .mv (.c (.v false (.bool false))), none⟩] none)
     (.ret))
    (.skip)))
  (.seq (.seq (.reg [2, 3, 14] [] [
      ⟨some 10, .fad (.t 2) 1, none⟩,
      ⟨some 11, .ld false 1 (.t 10), none⟩,
      ⟨some 12, .fad (.t 3) 1, none⟩,
      ⟨some 13, .ld false 1 (.t 12), none⟩,
      ⟨some 14, .bin .neq (.t 11) (.t 13), none⟩] none)
    (.cond (.t 14) (.seq (.reg [4] [] [
        ⟨some 4, .mv (.c (.v false (.bool false))), none⟩] none)
      (.ret))
     (.skip)))
   (.seq (.seq (.reg [19] [] [
       ⟨some 15, .fad (.t 2) 2, none⟩,
       ⟨some 16, .ld false 1 (.t 15), none⟩,
       ⟨some 17, .fad (.t 3) 2, none⟩,
       ⟨some 18, .ld false 1 (.t 17), none⟩,
       ⟨some 19, .bin .neq (.t 16) (.t 18), none⟩] none)
     (.cond (.t 19) (.seq (.reg [4] [] [
         ⟨some 4, .mv (.c (.v false (.bool false))), none⟩] none)
       (.ret))
      (.skip)))
    (.seq (.reg [4] [] [
       ⟨some 4, .mv (.c (.v false (.bool true))), none⟩] none)
     (.ret)))))

def pf165 : PF := ⟨[.s 4], [], pb165⟩

-- loop.example/g00496/laws.eqValS
def pl166_0 : PC :=
.seq (.seq (.reg [0, 1, 5, 14] [] [
          ⟨some 11, .mv (.t 5), none⟩,
          ⟨some 12, .mv (.t 0), none⟩,
          ⟨some 13, .len (.t 12), none⟩,
          ⟨some 14, .bin .lss (.t 11) (.t 13), none⟩] none)
        (.cond (.t 14) (.skip)
         (.exit 0)))
       (.seq (.blk 1 (.seq (.reg [0, 1, 5, 26] [] [
            ⟨some 17, .mv (.t 0), none⟩,
            ⟨some 18, .mv (.t 5), none⟩,
            ⟨some 19, .iad 3 (.t 17) (.t 18), none⟩,
            ⟨some 20, .ld true 3 (.t 19), none⟩,
            ⟨some 21, .mv (.t 1), none⟩,
            ⟨some 22, .mv (.t 5), none⟩,
            ⟨some 23, .iad 3 (.t 21) (.t 22), none⟩,
            ⟨some 24, .ld true 3 (.t 23), none⟩,
            ⟨some 25, .call 165 [] [(.t 20), (.t 24)], none⟩,
            ⟨some 26, .un .not (.t 25), none⟩] (some []))
          (.cond (.t 26) (.seq (.reg [4] [] [
              ⟨some 4, .mv (.c (.v false (.bool false))), none⟩] none)
            (.ret))
           (.skip))))
        (.reg [0, 1, 5] [] [
          ⟨some 15, .mv (.t 5), none⟩,
          ⟨some 16, .bin .add (.t 15) (.c (.v false (.int .i64 1))), none⟩,
          ⟨some 5, .mv (.t 16), none⟩] none))

def pb166 : PC :=
.seq (.reg [0, 1] [] [
   ⟨some 4, .mv (.c (.v false (.bool false))), none⟩] none)
 (.seq (.seq (.reg [0, 1, 10] [] [
     ⟨some 6, .mv (.t 0), none⟩,
     ⟨some 7, .len (.t 6), none⟩,
     ⟨some 8, .mv (.t 1), none⟩,
     ⟨some 9, .len (.t 8), none⟩,
     ⟨some 10, .bin .neq (.t 7) (.t 9), none⟩] none)
   (.cond (.t 10) (.seq (.reg [4] [] [
       ⟨some 4, .mv (.c (.v false (.bool false))), none⟩] none)
     (.ret))
    (.skip)))
  (.seq (.seq (.reg [0, 1, 5] [] [
      ⟨some 5, .mv (.c (.v false (.int .i64 0))), none⟩] none)
    (.blk 0 (.loop pl166_0)))
   (.seq (.reg [4] [] [
      ⟨some 4, .mv (.c (.v false (.bool true))), none⟩] none)
    (.ret))))

def pf166 : PF := ⟨[.s 4], [], pb166⟩

-- loop.example/g00496/laws.heldChunk
def pb170 : PC :=
.seq (.reg [1, 2] [] [
   ⟨some 2, .box 2 (.t 0), none⟩,
   ⟨some 4, .mv (.c (.v false (.int .i64 0))), none⟩] none)
 (.seq (.reg [1] [(8, 1)] [
    ⟨some 5, .fad (.t 2) 1, none⟩,
    ⟨some 6, .ld false 1 (.t 5), none⟩,
    ⟨some 7, .mv (.t 1), none⟩,
    ⟨some 8, .call 179 [] [(.t 6), (.t 7)], none⟩,
    ⟨some 1, .mv (.t 8), none⟩] none)
  (.seq (.seq (.reg [1, 10] [] [
      ⟨some 9, .mv (.t 1), none⟩,
      ⟨some 10, .bin .lss (.t 9) (.c (.v false (.int .i64 0))), none⟩] none)
    (.cond (.t 10) (.seq (.reg [4] [] [
        ⟨some 4, .mv (.c (.v false (.int .i64 (-1)))), none⟩] none)
      (.ret))
     (.skip)))
   (.seq (.reg [1, 4] [] [
      ⟨some 11, .mv (.t 1), none⟩,
      ⟨some 4, .mv (.t 11), none⟩] none)
    (.ret))))

def pf170 : PF := ⟨[.s 4], [], pb170⟩

-- loop.example/g00496/laws.heldSlotS
def pl179_0 : PC :=
.seq (.seq (.reg [0, 1, 5, 9] [] [
         ⟨some 6, .mv (.t 5), none⟩,
         ⟨some 7, .mv (.t 0), none⟩,
         ⟨some 8, .len (.t 7), none⟩,
         ⟨some 9, .bin .lss (.t 6) (.t 8), none⟩] none)
       (.cond (.t 9) (.skip)
        (.exit 0)))
      (.seq (.blk 1 (.seq (.seq (.reg [0, 1, 5, 18] [] [
            ⟨some 12, .mv (.t 0), none⟩,
            ⟨some 13, .mv (.t 5), none⟩,
            ⟨some 14, .iad 2 (.t 12) (.t 13), none⟩,
            ⟨some 15, .fad (.t 14) 0, none⟩,
            ⟨some 16, .ld false 1 (.t 15), none⟩,
            ⟨some 17, .mv (.t 1), none⟩,
            ⟨some 18, .bin .neq (.t 16) (.t 17), none⟩] none)
          (.cond (.t 18) (.seq (.reg [4] [] [
              ⟨some 4, .mv (.c (.v false (.int .i64 (-1)))), none⟩] none)
            (.ret))
           (.skip)))
         (.seq (.reg [0, 1, 5] [] [
            ⟨some 19, .mv (.t 1), none⟩,
            ⟨some 20, .bin .add (.t 19) (.c (.v false (.int .i64 1))), none⟩,
            ⟨some 1, .mv (.t 20), none⟩] none)
          (.seq (.reg [0, 1, 5] [(27, 1)] [
             ⟨some 21, .mv (.t 0), none⟩,
             ⟨some 22, .mv (.t 5), none⟩,
             ⟨some 23, .iad 2 (.t 21) (.t 22), none⟩,
             ⟨some 24, .fad (.t 23) 1, none⟩,
             ⟨some 25, .ld false 1 (.t 24), none⟩,
             ⟨some 26, .mv (.t 1), none⟩,
             ⟨some 27, .call 181 [] [(.t 25), (.t 26)], none⟩,
             ⟨some 1, .mv (.t 27), none⟩] none)
           (.seq (.reg [0, 1, 5, 29] [] [
              ⟨some 28, .mv (.t 1), none⟩,
              ⟨some 29, .bin .lss (.t 28) (.c (.v false (.int .i64 0))), none⟩] none)
            (.cond (.t 29) (.seq (.reg [4] [] [
                ⟨some 4, .mv (.c (.v false (.int .i64 (-1)))), none⟩] none)
              (.ret))
             (.skip)))))))
       (.reg [0, 1, 5] [] [
         ⟨some 10, .mv (.t 5), none⟩,
         ⟨some 11, .bin .add (.t 10) (.c (.v false (.int .i64 1))), none⟩,
         ⟨some 5, .mv (.t 11), none⟩] none))

def pb179 : PC :=
.seq (.reg [0, 1] [] [
   ⟨some 4, .mv (.c (.v false (.int .i64 0))), none⟩] none)
 (.seq (.seq (.reg [0, 1, 5] [] [
     ⟨some 5, .mv (.c (.v false (.int .i64 0))), none⟩] none)
   (.blk 0 (.loop pl179_0)))
  (.seq (.reg [1, 4] [] [
     ⟨some 30, .mv (.t 1), none⟩,
     ⟨some 4, .mv (.t 30), none⟩] none)
   (.ret)))

def pf179 : PF := ⟨[.s 4], [], pb179⟩

-- loop.example/g00496/laws.heldValS
def pl181_0 : PC :=
.seq (.seq (.reg [0, 1, 5, 9] [] [
         ⟨some 6, .mv (.t 5), none⟩,
         ⟨some 7, .mv (.t 0), none⟩,
         ⟨some 8, .len (.t 7), none⟩,
         ⟨some 9, .bin .lss (.t 6) (.t 8), none⟩] none)
       (.cond (.t 9) (.skip)
        (.exit 0)))
      (.seq (.blk 1 (.seq (.seq (.reg [0, 1, 5, 18] [] [
            ⟨some 12, .mv (.t 0), none⟩,
            ⟨some 13, .mv (.t 5), none⟩,
            ⟨some 14, .iad 3 (.t 12) (.t 13), none⟩,
            ⟨some 15, .fad (.t 14) 0, none⟩,
            ⟨some 16, .ld false 1 (.t 15), none⟩,
            ⟨some 17, .mv (.t 1), none⟩,
            ⟨some 18, .bin .neq (.t 16) (.t 17), none⟩] none)
          (.cond (.t 18) (.seq (.reg [4] [] [
              ⟨some 4, .mv (.c (.v false (.int .i64 (-1)))), none⟩] none)
            (.ret))
           (.skip)))
         (.seq (.reg [0, 1, 5] [] [
            ⟨some 19, .mv (.t 1), none⟩,
            ⟨some 20, .bin .add (.t 19) (.c (.v false (.int .i64 1))), none⟩,
            ⟨some 1, .mv (.t 20), none⟩] none)
          (.seq (.seq (.reg [0, 1, 5, 27] [] [
              ⟨some 21, .mv (.t 0), none⟩,
              ⟨some 22, .mv (.t 5), none⟩,
              ⟨some 23, .iad 3 (.t 21) (.t 22), none⟩,
              ⟨some 24, .fad (.t 23) 1, none⟩,
              ⟨some 25, .ld false 1 (.t 24), none⟩,
              ⟨some 26, .mv (.t 1), none⟩,
              ⟨some 27, .bin .neq (.t 25) (.t 26), none⟩] none)
            (.cond (.t 27) (.seq (.reg [4] [] [
                ⟨some 4, .mv (.c (.v false (.int .i64 (-1)))), none⟩] none)
              (.ret))
             (.skip)))
           (.seq (.reg [0, 1, 5] [] [
              ⟨some 28, .mv (.t 1), none⟩,
              ⟨some 29, .bin .add (.t 28) (.c (.v false (.int .i64 1))), none⟩,
              ⟨some 1, .mv (.t 29), none⟩] none)
            (.seq (.seq (.reg [0, 1, 5, 37] [] [
                ⟨some 30, .mv (.t 0), none⟩,
                ⟨some 31, .mv (.t 5), none⟩,
                ⟨some 32, .iad 3 (.t 30) (.t 31), none⟩,
                ⟨some 33, .fad (.t 32) 2, none⟩,
                ⟨some 34, .ld false 1 (.t 33), none⟩,
                ⟨some 35, .mv (.t 1), none⟩,
                ⟨some 36, .call 196 [] [(.t 35)], none⟩,
                ⟨some 37, .bin .neq (.t 34) (.t 36), none⟩] (some [(2, 6), (4, 6)]))
              (.cond (.t 37) (.seq (.reg [4] [] [
                  ⟨some 4, .mv (.c (.v false (.int .i64 (-1)))), none⟩] none)
                (.ret))
               (.skip)))
             (.reg [0, 1, 5] [] [
               ⟨some 38, .mv (.t 1), none⟩,
               ⟨some 39, .bin .add (.t 38) (.c (.v false (.int .i64 1))), none⟩,
               ⟨some 1, .mv (.t 39), none⟩] none)))))))
       (.reg [0, 1, 5] [] [
         ⟨some 10, .mv (.t 5), none⟩,
         ⟨some 11, .bin .add (.t 10) (.c (.v false (.int .i64 1))), none⟩,
         ⟨some 5, .mv (.t 11), none⟩] none))

def pb181 : PC :=
.seq (.reg [0, 1] [] [
   ⟨some 4, .mv (.c (.v false (.int .i64 0))), none⟩] none)
 (.seq (.seq (.reg [0, 1, 5] [] [
     ⟨some 5, .mv (.c (.v false (.int .i64 0))), none⟩] none)
   (.blk 0 (.loop pl181_0)))
  (.seq (.reg [4] [] [
     ⟨some 40, .mv (.t 1), none⟩,
     ⟨some 4, .mv (.t 40), none⟩] none)
   (.ret)))

def pf181 : PF := ⟨[.s 4], [], pb181⟩

-- loop.example/g00496/laws.markChunk
def pb185 : PC :=
.seq (.reg [0, 1, 2] [] [
   ⟨some 2, .box 2 (.t 0), none⟩,
   ⟨some 4, .mv (.c (.v false (.int .i64 0))), none⟩] none)
 (.seq (.reg [0, 1] [(8, 1)] [
    ⟨some 5, .fad (.t 2) 1, none⟩,
    ⟨some 6, .ld false 1 (.t 5), none⟩,
    ⟨some 7, .mv (.t 1), none⟩,
    ⟨some 8, .call 194 [0] [(.t 6), (.t 7)], none⟩,
    ⟨some 1, .mv (.t 8), none⟩] none)
  (.seq (.reg [0, 1, 4] [] [
     ⟨some 9, .mv (.t 1), none⟩,
     ⟨some 4, .mv (.t 9), none⟩] none)
   (.ret)))

def pf185 : PF := ⟨[.s 4], [0], pb185⟩

-- loop.example/g00496/laws.markSlotS
def pl194_0 : PC :=
.seq (.seq (.reg [0, 1, 5, 9] [] [
         ⟨some 6, .mv (.t 5), none⟩,
         ⟨some 7, .mv (.t 0), none⟩,
         ⟨some 8, .len (.t 7), none⟩,
         ⟨some 9, .bin .lss (.t 6) (.t 8), none⟩] none)
       (.cond (.t 9) (.skip)
        (.exit 0)))
      (.seq (.blk 1 (.seq (.reg [0, 1, 5] [] [
           ⟨some 12, .mv (.t 0), none⟩,
           ⟨some 13, .mv (.t 5), none⟩,
           ⟨some 14, .mv (.t 1), none⟩,
           ⟨some 15, .iad 2 (.t 12) (.t 13), none⟩,
           ⟨some 16, .fad (.t 15) 0, none⟩,
           ⟨none, .st 1 (.t 16) (.t 14), none⟩] none)
         (.seq (.reg [0, 1, 5] [] [
            ⟨some 17, .mv (.t 1), none⟩,
            ⟨some 18, .bin .add (.t 17) (.c (.v false (.int .i64 1))), none⟩,
            ⟨some 1, .mv (.t 18), none⟩] none)
          (.reg [0, 1, 5] [(25, 1)] [
            ⟨some 19, .mv (.t 0), none⟩,
            ⟨some 20, .mv (.t 5), none⟩,
            ⟨some 21, .iad 2 (.t 19) (.t 20), none⟩,
            ⟨some 22, .fad (.t 21) 1, none⟩,
            ⟨some 23, .ld false 1 (.t 22), none⟩,
            ⟨some 24, .mv (.t 1), none⟩,
            ⟨some 25, .call 197 [0] [(.t 23), (.t 24)], none⟩,
            ⟨some 1, .mv (.t 25), none⟩] none))))
       (.reg [0, 1, 5] [] [
         ⟨some 10, .mv (.t 5), none⟩,
         ⟨some 11, .bin .add (.t 10) (.c (.v false (.int .i64 1))), none⟩,
         ⟨some 5, .mv (.t 11), none⟩] none))

def pb194 : PC :=
.seq (.reg [0, 1] [] [
   ⟨some 4, .mv (.c (.v false (.int .i64 0))), none⟩] none)
 (.seq (.seq (.reg [0, 1, 5] [] [
     ⟨some 5, .mv (.c (.v false (.int .i64 0))), none⟩] none)
   (.blk 0 (.loop pl194_0)))
  (.seq (.reg [0, 1, 4] [] [
     ⟨some 26, .mv (.t 1), none⟩,
     ⟨some 4, .mv (.t 26), none⟩] none)
   (.ret)))

def pf194 : PF := ⟨[.s 4], [0], pb194⟩

-- loop.example/g00496/laws.markText
def pl196_0 : PC :=
.seq (.seq (.reg [0, 3, 7] [] [
          ⟨some 6, .mv (.t 0), none⟩,
          ⟨some 7, .bin .gtr (.t 6) (.c (.v false (.int .i64 0))), none⟩] none)
        (.cond (.t 7) (.skip)
         (.exit 0)))
       (.blk 1 (.seq (.reg [0, 3] [] [
           ⟨some 8, .mv (.t 0), none⟩,
           ⟨some 9, .bin .rem (.t 8) (.c (.v false (.int .i64 10))), none⟩,
           ⟨some 10, .bin .add (.c (.v false (.int .i64 48))) (.t 9), none⟩,
           ⟨some 11, .cvi .u8 (.t 10), none⟩,
           ⟨some 12, .bsl 1 [.int .u8 0] 1 [(0, (.t 11))], none⟩,
           ⟨some 13, .cvs (.t 12), none⟩,
           ⟨some 14, .mv (.t 3), none⟩,
           ⟨some 15, .bin .add (.t 13) (.t 14), none⟩,
           ⟨some 3, .mv (.t 15), none⟩] none)
         (.reg [0, 3] [] [
           ⟨some 16, .mv (.t 0), none⟩,
           ⟨some 17, .bin .quo (.t 16) (.c (.v false (.int .i64 10))), none⟩,
           ⟨some 0, .mv (.t 17), none⟩] none)))

def pb196 : PC :=
.seq (.reg [0] [] [
   ⟨some 2, .mv (.c (.v false (.str ⟨#[]⟩))), none⟩] none)
 (.seq (.seq (.reg [0, 5] [] [
     ⟨some 4, .mv (.t 0), none⟩,
     ⟨some 5, .bin .leq (.t 4) (.c (.v false (.int .i64 0))), none⟩] none)
   (.cond (.t 5) (.seq (.reg [2] [] [
       ⟨some 2, .mv (.c (.v false (.str ⟨#[109, 48]⟩))), none⟩] none)
     (.ret))
    (.skip)))
  (.seq (.reg [0, 3] [] [
     ⟨some 3, .mv (.c (.v false (.str ⟨#[]⟩))), none⟩] none)
   (.seq (.blk 0 (.loop pl196_0))
    (.seq (.reg [2] [] [
       ⟨some 18, .mv (.t 3), none⟩,
       ⟨some 19, .bin .add (.c (.v false (.str ⟨#[109]⟩))) (.t 18), none⟩,
       ⟨some 2, .mv (.t 19), none⟩] none)
     (.ret)))))

def pf196 : PF := ⟨[.s 2], [], pb196⟩

-- loop.example/g00496/laws.markValS
def pl197_0 : PC :=
.seq (.seq (.reg [0, 1, 5, 9] [] [
         ⟨some 6, .mv (.t 5), none⟩,
         ⟨some 7, .mv (.t 0), none⟩,
         ⟨some 8, .len (.t 7), none⟩,
         ⟨some 9, .bin .lss (.t 6) (.t 8), none⟩] none)
       (.cond (.t 9) (.skip)
        (.exit 0)))
      (.seq (.blk 1 (.seq (.reg [0, 1, 5] [] [
           ⟨some 12, .mv (.t 0), none⟩,
           ⟨some 13, .mv (.t 5), none⟩,
           ⟨some 14, .mv (.t 1), none⟩,
           ⟨some 15, .iad 3 (.t 12) (.t 13), none⟩,
           ⟨some 16, .fad (.t 15) 0, none⟩,
           ⟨none, .st 1 (.t 16) (.t 14), none⟩] none)
         (.seq (.reg [0, 1, 5] [] [
            ⟨some 17, .mv (.t 1), none⟩,
            ⟨some 18, .bin .add (.t 17) (.c (.v false (.int .i64 1))), none⟩,
            ⟨some 1, .mv (.t 18), none⟩] none)
          (.seq (.reg [0, 1, 5] [] [
             ⟨some 19, .mv (.t 0), none⟩,
             ⟨some 20, .mv (.t 5), none⟩,
             ⟨some 21, .mv (.t 1), none⟩,
             ⟨some 22, .iad 3 (.t 19) (.t 20), none⟩,
             ⟨some 23, .fad (.t 22) 1, none⟩,
             ⟨none, .st 1 (.t 23) (.t 21), none⟩] none)
           (.seq (.reg [0, 1, 5] [] [
              ⟨some 24, .mv (.t 1), none⟩,
              ⟨some 25, .bin .add (.t 24) (.c (.v false (.int .i64 1))), none⟩,
              ⟨some 1, .mv (.t 25), none⟩] none)
            (.seq (.reg [0, 1, 5] [] [
               ⟨some 26, .mv (.t 0), none⟩,
               ⟨some 27, .mv (.t 5), none⟩,
               ⟨some 28, .mv (.t 1), none⟩,
               ⟨some 29, .call 196 [] [(.t 28)], none⟩,
               ⟨some 30, .iad 3 (.t 26) (.t 27), none⟩,
               ⟨some 31, .fad (.t 30) 2, none⟩,
               ⟨none, .st 1 (.t 31) (.t 29), none⟩] none)
             (.reg [0, 1, 5] [] [
               ⟨some 32, .mv (.t 1), none⟩,
               ⟨some 33, .bin .add (.t 32) (.c (.v false (.int .i64 1))), none⟩,
               ⟨some 1, .mv (.t 33), none⟩] none)))))))
       (.reg [0, 1, 5] [] [
         ⟨some 10, .mv (.t 5), none⟩,
         ⟨some 11, .bin .add (.t 10) (.c (.v false (.int .i64 1))), none⟩,
         ⟨some 5, .mv (.t 11), none⟩] none))

def pb197 : PC :=
.seq (.reg [0, 1] [] [
   ⟨some 4, .mv (.c (.v false (.int .i64 0))), none⟩] none)
 (.seq (.seq (.reg [0, 1, 5] [] [
     ⟨some 5, .mv (.c (.v false (.int .i64 0))), none⟩] none)
   (.blk 0 (.loop pl197_0)))
  (.seq (.reg [0, 4] [] [
     ⟨some 34, .mv (.t 1), none⟩,
     ⟨some 4, .mv (.t 34), none⟩] none)
   (.ret)))

def pf197 : PF := ⟨[.s 4], [0], pb197⟩

-- loop.example/g00496/laws.szChunk
def pb213 : PC :=
.seq (.reg [1, 2] [] [
   ⟨some 2, .box 2 (.t 0), none⟩,
   ⟨some 4, .mv (.c (.v false (.int .i64 0))), none⟩] none)
 (.seq (.reg [1] [(8, 1)] [
    ⟨some 5, .fad (.t 2) 1, none⟩,
    ⟨some 6, .ld false 1 (.t 5), none⟩,
    ⟨some 7, .mv (.t 1), none⟩,
    ⟨some 8, .call 228 [] [(.t 6), (.t 7)], none⟩,
    ⟨some 1, .mv (.t 8), none⟩] none)
  (.seq (.seq (.reg [1, 10] [] [
      ⟨some 9, .mv (.t 1), none⟩,
      ⟨some 10, .bin .lss (.t 9) (.c (.v false (.int .i64 0))), none⟩] none)
    (.cond (.t 10) (.seq (.reg [4] [] [
        ⟨some 4, .mv (.c (.v false (.int .i64 (-1)))), none⟩] none)
      (.ret))
     (.skip)))
   (.seq (.reg [1, 4] [] [
      ⟨some 11, .mv (.t 1), none⟩,
      ⟨some 4, .mv (.t 11), none⟩] none)
    (.ret))))

def pf213 : PF := ⟨[.s 4], [], pb213⟩

-- loop.example/g00496/laws.szSlot
def pb227 : PC :=
.seq (.reg [1, 2] [] [
   ⟨some 2, .box 2 (.t 0), none⟩,
   ⟨some 4, .mv (.c (.v false (.int .i64 0))), none⟩] none)
 (.seq (.reg [1] [(8, 1)] [
    ⟨some 5, .fad (.t 2) 1, none⟩,
    ⟨some 6, .ld false 1 (.t 5), none⟩,
    ⟨some 7, .mv (.t 1), none⟩,
    ⟨some 8, .call 232 [] [(.t 6), (.t 7)], none⟩,
    ⟨some 1, .mv (.t 8), none⟩] none)
  (.seq (.seq (.reg [1, 10] [] [
      ⟨some 9, .mv (.t 1), none⟩,
      ⟨some 10, .bin .lss (.t 9) (.c (.v false (.int .i64 0))), none⟩] none)
    (.cond (.t 10) (.seq (.reg [4] [] [
        ⟨some 4, .mv (.c (.v false (.int .i64 (-1)))), none⟩] none)
      (.ret))
     (.skip)))
   (.seq (.reg [1, 4] [] [
      ⟨some 11, .mv (.t 1), none⟩,
      ⟨some 4, .mv (.t 11), none⟩] none)
    (.ret))))

def pf227 : PF := ⟨[.s 4], [], pb227⟩

-- loop.example/g00496/laws.szSlotS
def pl228_0 : PC :=
.seq (.seq (.reg [0, 1, 5, 15] [] [
           ⟨some 12, .mv (.t 5), none⟩,
           ⟨some 13, .mv (.t 0), none⟩,
           ⟨some 14, .len (.t 13), none⟩,
           ⟨some 15, .bin .lss (.t 12) (.t 14), none⟩] none)
         (.cond (.t 15) (.skip)
          (.exit 0)))
        (.seq (.blk 1 (.seq (.reg [0, 1, 5] [(23, 1)] [
             ⟨some 18, .mv (.t 0), none⟩,
             ⟨some 19, .mv (.t 5), none⟩,
             ⟨some 20, .iad 2 (.t 18) (.t 19), none⟩,
             ⟨some 21, .ld true 2 (.t 20), none⟩,
             ⟨some 22, .mv (.t 1), none⟩,
             ⟨some 23, .call 227 [] [(.t 21), (.t 22)], none⟩,
             ⟨some 1, .mv (.t 23), none⟩] none)
           (.seq (.reg [0, 1, 5, 25] [] [
              ⟨some 24, .mv (.t 1), none⟩,
              ⟨some 25, .bin .lss (.t 24) (.c (.v false (.int .i64 0))), none⟩] none)
            (.cond (.t 25) (.seq (.reg [4] [] [
                ⟨some 4, .mv (.c (.v false (.int .i64 (-1)))), none⟩] none)
              (.ret))
             (.skip)))))
         (.reg [0, 1, 5] [] [
           ⟨some 16, .mv (.t 5), none⟩,
           ⟨some 17, .bin .add (.t 16) (.c (.v false (.int .i64 1))), none⟩,
           ⟨some 5, .mv (.t 17), none⟩] none))

def pb228 : PC :=
.seq (.reg [0, 1] [] [
   ⟨some 4, .mv (.c (.v false (.int .i64 0))), none⟩] none)
 (.seq (.reg [0, 1] [] [
    ⟨some 6, .mv (.t 1), none⟩,
    ⟨some 7, .mv (.t 0), none⟩,
    ⟨some 8, .len (.t 7), none⟩,
    ⟨some 9, .bin .sub (.t 6) (.t 8), none⟩,
    ⟨some 1, .mv (.t 9), none⟩] none)
  (.seq (.seq (.reg [0, 1, 11] [] [
      ⟨some 10, .mv (.t 1), none⟩,
      ⟨some 11, .bin .lss (.t 10) (.c (.v false (.int .i64 0))), none⟩] none)
    (.cond (.t 11) (.seq (.reg [4] [] [
        ⟨some 4, .mv (.c (.v false (.int .i64 (-1)))), none⟩] none)
      (.ret))
     (.skip)))
   (.seq (.seq (.reg [0, 1, 5] [] [
       ⟨some 5, .mv (.c (.v false (.int .i64 0))), none⟩] none)
     (.blk 0 (.loop pl228_0)))
    (.seq (.reg [1, 4] [] [
       ⟨some 26, .mv (.t 1), none⟩,
       ⟨some 4, .mv (.t 26), none⟩] none)
     (.ret)))))

def pf228 : PF := ⟨[.s 4], [], pb228⟩

-- loop.example/g00496/laws.szVal
def pb231 : PC :=
.seq (.reg [1, 2] [] [
   ⟨some 2, .box 3 (.t 0), none⟩,
   ⟨some 4, .mv (.c (.v false (.int .i64 0))), none⟩] none)
 (.seq (.reg [1] [] [
    ⟨some 5, .mv (.t 1), none⟩,
    ⟨some 6, .fad (.t 2) 2, none⟩,
    ⟨some 7, .ld false 1 (.t 6), none⟩,
    ⟨some 8, .lens (.t 7), none⟩,
    ⟨some 9, .bin .sub (.t 5) (.t 8), none⟩,
    ⟨some 1, .mv (.t 9), none⟩] none)
  (.seq (.seq (.reg [1, 11] [] [
      ⟨some 10, .mv (.t 1), none⟩,
      ⟨some 11, .bin .lss (.t 10) (.c (.v false (.int .i64 0))), none⟩] none)
    (.cond (.t 11) (.seq (.reg [4] [] [
        ⟨some 4, .mv (.c (.v false (.int .i64 (-1)))), none⟩] none)
      (.ret))
     (.skip)))
   (.seq (.reg [4] [] [
      ⟨some 12, .mv (.t 1), none⟩,
      ⟨some 4, .mv (.t 12), none⟩] none)
    (.ret))))

def pf231 : PF := ⟨[.s 4], [], pb231⟩

-- loop.example/g00496/laws.szValS
def pl232_0 : PC :=
.seq (.seq (.reg [0, 1, 5, 15] [] [
           ⟨some 12, .mv (.t 5), none⟩,
           ⟨some 13, .mv (.t 0), none⟩,
           ⟨some 14, .len (.t 13), none⟩,
           ⟨some 15, .bin .lss (.t 12) (.t 14), none⟩] none)
         (.cond (.t 15) (.skip)
          (.exit 0)))
        (.seq (.blk 1 (.seq (.reg [0, 1, 5] [(23, 1)] [
             ⟨some 18, .mv (.t 0), none⟩,
             ⟨some 19, .mv (.t 5), none⟩,
             ⟨some 20, .iad 3 (.t 18) (.t 19), none⟩,
             ⟨some 21, .ld true 3 (.t 20), none⟩,
             ⟨some 22, .mv (.t 1), none⟩,
             ⟨some 23, .call 231 [] [(.t 21), (.t 22)], none⟩,
             ⟨some 1, .mv (.t 23), none⟩] none)
           (.seq (.reg [0, 1, 5, 25] [] [
              ⟨some 24, .mv (.t 1), none⟩,
              ⟨some 25, .bin .lss (.t 24) (.c (.v false (.int .i64 0))), none⟩] none)
            (.cond (.t 25) (.seq (.reg [4] [] [
                ⟨some 4, .mv (.c (.v false (.int .i64 (-1)))), none⟩] none)
              (.ret))
             (.skip)))))
         (.reg [0, 1, 5] [] [
           ⟨some 16, .mv (.t 5), none⟩,
           ⟨some 17, .bin .add (.t 16) (.c (.v false (.int .i64 1))), none⟩,
           ⟨some 5, .mv (.t 17), none⟩] none))

def pb232 : PC :=
.seq (.reg [0, 1] [] [
   ⟨some 4, .mv (.c (.v false (.int .i64 0))), none⟩] none)
 (.seq (.reg [0, 1] [] [
    ⟨some 6, .mv (.t 1), none⟩,
    ⟨some 7, .mv (.t 0), none⟩,
    ⟨some 8, .len (.t 7), none⟩,
    ⟨some 9, .bin .sub (.t 6) (.t 8), none⟩,
    ⟨some 1, .mv (.t 9), none⟩] none)
  (.seq (.seq (.reg [0, 1, 11] [] [
      ⟨some 10, .mv (.t 1), none⟩,
      ⟨some 11, .bin .lss (.t 10) (.c (.v false (.int .i64 0))), none⟩] none)
    (.cond (.t 11) (.seq (.reg [4] [] [
        ⟨some 4, .mv (.c (.v false (.int .i64 (-1)))), none⟩] none)
      (.ret))
     (.skip)))
   (.seq (.seq (.reg [0, 1, 5] [] [
       ⟨some 5, .mv (.c (.v false (.int .i64 0))), none⟩] none)
     (.blk 0 (.loop pl232_0)))
    (.seq (.reg [1, 4] [] [
       ⟨some 26, .mv (.t 1), none⟩,
       ⟨some 4, .mv (.t 26), none⟩] none)
     (.ret)))))

def pf232 : PF := ⟨[.s 4], [], pb232⟩

-- loop.example/g00496/laws.toChunk
def pb237 : PC :=
.seq (.reg [1, 2] [] [
   ⟨some 1, .box 2 (.t 0), none⟩,
   ⟨some 2, .alloc [(.v false (.int .i64 0)), (.nl 2)], none⟩] none)
 (.seq (.reg [1, 2, 3] [] [
    ⟨some 3, .alloc [(.v false (.int .i64 0)), (.nl 2)], none⟩] none)
  (.seq (.reg [1, 2, 3] [] [
     ⟨some 4, .fad (.t 1) 0, none⟩,
     ⟨some 5, .ld false 1 (.t 4), none⟩,
     ⟨some 6, .fad (.t 3) 0, none⟩,
     ⟨none, .st 1 (.t 6) (.t 5), none⟩] none)
   (.seq (.reg [2, 3] [] [
      ⟨some 7, .fad (.t 1) 1, none⟩,
      ⟨some 8, .ld false 1 (.t 7), none⟩,
      ⟨some 9, .call 254 [] [(.t 8)], none⟩,
      ⟨some 10, .fad (.t 3) 1, none⟩,
      ⟨none, .st 1 (.t 10) (.t 9), none⟩] none)
    (.seq (.reg [2] [] [
       ⟨some 11, .ld true 2 (.t 3), none⟩,
       ⟨none, .st 2 (.t 2) (.t 11), none⟩] none)
     (.ret)))))

def pf237 : PF := ⟨[.b 2 2 true], [], pb237⟩

-- loop.example/g00496/laws.toSlot
def pb253 : PC :=
.seq (.reg [1, 2] [] [
   ⟨some 1, .box 2 (.t 0), none⟩,
   ⟨some 2, .alloc [(.v false (.int .i64 0)), (.nl 3)], none⟩] none)
 (.seq (.reg [1, 2, 3] [] [
    ⟨some 3, .alloc [(.v false (.int .i64 0)), (.nl 3)], none⟩] none)
  (.seq (.reg [1, 2, 3] [] [
     ⟨some 4, .fad (.t 1) 0, none⟩,
     ⟨some 5, .ld false 1 (.t 4), none⟩,
     ⟨some 6, .fad (.t 3) 0, none⟩,
     ⟨none, .st 1 (.t 6) (.t 5), none⟩] none)
   (.seq (.reg [2, 3] [] [
      ⟨some 7, .fad (.t 1) 1, none⟩,
      ⟨some 8, .ld false 1 (.t 7), none⟩,
      ⟨some 9, .call 258 [] [(.t 8)], none⟩,
      ⟨some 10, .fad (.t 3) 1, none⟩,
      ⟨none, .st 1 (.t 10) (.t 9), none⟩] none)
    (.seq (.reg [2] [] [
       ⟨some 11, .ld true 2 (.t 3), none⟩,
       ⟨none, .st 2 (.t 2) (.t 11), none⟩] none)
     (.ret)))))

def pf253 : PF := ⟨[.b 2 2 true], [], pb253⟩

-- loop.example/g00496/laws.toSlotS
def pl254_0 : PC :=
.seq (.seq (.reg [0, 3, 4, 11] [] [
          ⟨some 8, .mv (.t 4), none⟩,
          ⟨some 9, .mv (.t 0), none⟩,
          ⟨some 10, .len (.t 9), none⟩,
          ⟨some 11, .bin .lss (.t 8) (.t 10), none⟩] none)
        (.cond (.t 11) (.skip)
         (.exit 0)))
       (.seq (.blk 1 (.reg [0, 3, 4] [] [
           ⟨some 14, .mv (.t 3), none⟩,
           ⟨some 15, .mv (.t 4), none⟩,
           ⟨some 16, .mv (.t 0), none⟩,
           ⟨some 17, .mv (.t 4), none⟩,
           ⟨some 18, .iad 2 (.t 16) (.t 17), none⟩,
           ⟨some 19, .ld true 2 (.t 18), none⟩,
           ⟨some 20, .call 253 [] [(.t 19)], none⟩,
           ⟨some 21, .iad 2 (.t 14) (.t 15), none⟩,
           ⟨none, .st 2 (.t 21) (.t 20), none⟩] none))
        (.reg [0, 3, 4] [] [
          ⟨some 12, .mv (.t 4), none⟩,
          ⟨some 13, .bin .add (.t 12) (.c (.v false (.int .i64 1))), none⟩,
          ⟨some 4, .mv (.t 13), none⟩] none))

def pb254 : PC :=
.seq (.reg [0] [] [
   ⟨some 2, .mv (.c (.nl 2)), none⟩] none)
 (.seq (.reg [0, 3] [(7, 3)] [
    ⟨some 5, .mv (.t 0), none⟩,
    ⟨some 6, .len (.t 5), none⟩,
    ⟨some 7, .mks 2 32 [.int .i64 0, .sl 3 []] (.t 6), none⟩,
    ⟨some 3, .mv (.t 7), none⟩] none)
  (.seq (.seq (.reg [0, 3, 4] [] [
      ⟨some 4, .mv (.c (.v false (.int .i64 0))), none⟩] none)
    (.blk 0 (.loop pl254_0)))
   (.seq (.reg [2, 3] [] [
      ⟨some 22, .mv (.t 3), none⟩,
      ⟨some 2, .mv (.t 22), none⟩] none)
    (.ret))))

def pf254 : PF := ⟨[.s 2], [], pb254⟩

-- loop.example/g00496/laws.toVal
def pb257 : PC :=
.seq (.reg [1, 2] [] [
   ⟨some 1, .box 3 (.t 0), none⟩,
   ⟨some 2, .alloc [(.v false (.int .i64 0)), (.v false (.int .i64 0)), (.v false (.str ⟨#[]⟩))], none⟩] none)
 (.seq (.reg [1, 2, 3] [] [
    ⟨some 3, .alloc [(.v false (.int .i64 0)), (.v false (.int .i64 0)), (.v false (.str ⟨#[]⟩))], none⟩] none)
  (.seq (.reg [1, 2, 3] [] [
     ⟨some 4, .fad (.t 1) 0, none⟩,
     ⟨some 5, .ld false 1 (.t 4), none⟩,
     ⟨some 6, .fad (.t 3) 0, none⟩,
     ⟨none, .st 1 (.t 6) (.t 5), none⟩] none)
   (.seq (.reg [1, 2, 3] [] [
      ⟨some 7, .fad (.t 1) 1, none⟩,
      ⟨some 8, .ld false 1 (.t 7), none⟩,
      ⟨some 9, .fad (.t 3) 1, none⟩,
      ⟨none, .st 1 (.t 9) (.t 8), none⟩] none)
    (.seq (.reg [2, 3] [] [
       ⟨some 10, .fad (.t 1) 2, none⟩,
       ⟨some 11, .ld false 1 (.t 10), none⟩,
       ⟨some 12, .fad (.t 3) 2, none⟩,
       ⟨none, .st 1 (.t 12) (.t 11), none⟩] none)
     (.seq (.reg [2] [] [
        ⟨some 13, .ld true 3 (.t 3), none⟩,
        ⟨none, .st 3 (.t 2) (.t 13), none⟩] none)
      (.ret))))))

def pf257 : PF := ⟨[.b 2 3 true], [], pb257⟩

-- loop.example/g00496/laws.toValS
def pl258_0 : PC :=
.seq (.seq (.reg [0, 3, 4, 11] [] [
          ⟨some 8, .mv (.t 4), none⟩,
          ⟨some 9, .mv (.t 0), none⟩,
          ⟨some 10, .len (.t 9), none⟩,
          ⟨some 11, .bin .lss (.t 8) (.t 10), none⟩] none)
        (.cond (.t 11) (.skip)
         (.exit 0)))
       (.seq (.blk 1 (.reg [0, 3, 4] [] [
           ⟨some 14, .mv (.t 3), none⟩,
           ⟨some 15, .mv (.t 4), none⟩,
           ⟨some 16, .mv (.t 0), none⟩,
           ⟨some 17, .mv (.t 4), none⟩,
           ⟨some 18, .iad 3 (.t 16) (.t 17), none⟩,
           ⟨some 19, .ld true 3 (.t 18), none⟩,
           ⟨some 20, .call 257 [] [(.t 19)], none⟩,
           ⟨some 21, .iad 3 (.t 14) (.t 15), none⟩,
           ⟨none, .st 3 (.t 21) (.t 20), none⟩] none))
        (.reg [0, 3, 4] [] [
          ⟨some 12, .mv (.t 4), none⟩,
          ⟨some 13, .bin .add (.t 12) (.c (.v false (.int .i64 1))), none⟩,
          ⟨some 4, .mv (.t 13), none⟩] none))

def pb258 : PC :=
.seq (.reg [0] [] [
   ⟨some 2, .mv (.c (.nl 3)), none⟩] none)
 (.seq (.reg [0, 3] [(7, 3)] [
    ⟨some 5, .mv (.t 0), none⟩,
    ⟨some 6, .len (.t 5), none⟩,
    ⟨some 7, .mks 3 32 [.int .i64 0, .int .i64 0, .str ⟨#[]⟩] (.t 6), none⟩,
    ⟨some 3, .mv (.t 7), none⟩] none)
  (.seq (.seq (.reg [0, 3, 4] [] [
      ⟨some 4, .mv (.c (.v false (.int .i64 0))), none⟩] none)
    (.blk 0 (.loop pl258_0)))
   (.seq (.reg [2, 3] [] [
      ⟨some 22, .mv (.t 3), none⟩,
      ⟨some 2, .mv (.t 22), none⟩] none)
    (.ret))))

def pf258 : PF := ⟨[.s 2], [], pb258⟩

-- loop.example/g00496/spec.Reserve
def pb323 : PC :=
.seq (.reg [1, 2] [] [
   ⟨some 1, .box 2 (.t 0), none⟩,
   ⟨some 2, .alloc [(.v false (.int .i64 0)), (.nl 2)], none⟩,
   ⟨some 3, .mv (.c (.v false (.int .i64 0))), none⟩] none)
 (.seq (.reg [1, 2, 4] [] [
    ⟨some 5, .ld true 2 (.t 1), none⟩,
    ⟨some 6, .call 359 [] [(.t 5)], none⟩,
    ⟨some 4, .alloc [(.v false (.int .i64 0)), (.nl 2)], none⟩,
    ⟨none, .st 2 (.t 4) (.t 6), none⟩] none)
  (.seq (.seq (.reg [1, 2, 4, 14] [] [
      ⟨some 7, .fad (.t 1) 0, none⟩,
      ⟨some 8, .ld false 1 (.t 7), none⟩,
      ⟨some 9, .fad (.t 1) 1, none⟩,
      ⟨some 10, .ld false 1 (.t 9), none⟩,
      ⟨some 11, .len (.t 10), none⟩,
      ⟨some 12, .bin .sub (.t 11) (.c (.v false (.int .i64 1))), none⟩,
      ⟨some 13, .call 377 [] [(.t 8), (.c (.v false (.int .i64 0))), (.t 12)], none⟩,
      ⟨some 14, .un .not (.t 13), none⟩] none)
    (.cond (.t 14) (.seq (.reg [2, 3] [] [
        ⟨some 15, .ld true 2 (.t 4), none⟩,
        ⟨none, .st 2 (.t 2) (.t 15), none⟩,
        ⟨some 3, .mv (.c (.v false (.int .i64 (-1)))), none⟩] none)
      (.ret))
     (.skip)))
   (.seq (.reg [1, 2, 4] [] [
      ⟨some 16, .fad (.t 1) 0, none⟩,
      ⟨some 17, .ld false 1 (.t 16), none⟩,
      ⟨some 18, .bin .add (.t 17) (.c (.v false (.int .i64 1))), none⟩,
      ⟨some 19, .fad (.t 4) 0, none⟩,
      ⟨none, .st 1 (.t 19) (.t 18), none⟩] none)
    (.seq (.reg [1, 2, 3] [] [
       ⟨some 20, .ld true 2 (.t 4), none⟩,
       ⟨some 21, .fad (.t 1) 0, none⟩,
       ⟨some 22, .ld false 1 (.t 21), none⟩,
       ⟨none, .st 2 (.t 2) (.t 20), none⟩,
       ⟨some 3, .mv (.t 22), none⟩] (some [(2, 3)]))
     (.ret)))))

def pf323 : PF := ⟨[.b 2 2 true, .s 3], [], pb323⟩

-- loop.example/g00496/spec.l15Copy
def pl359_0 : PC :=
.seq (.seq (.reg [1, 2, 3, 4, 13] [] [
          ⟨some 9, .mv (.t 4), none⟩,
          ⟨some 10, .fad (.t 1) 1, none⟩,
          ⟨some 11, .ld false 1 (.t 10), none⟩,
          ⟨some 12, .len (.t 11), none⟩,
          ⟨some 13, .bin .lss (.t 9) (.t 12), none⟩] none)
        (.cond (.t 13) (.skip)
         (.exit 0)))
       (.seq (.blk 1 (.reg [1, 2, 3, 4] [] [
           ⟨some 16, .fad (.t 3) 1, none⟩,
           ⟨some 17, .ld false 1 (.t 16), none⟩,
           ⟨some 18, .fad (.t 1) 1, none⟩,
           ⟨some 19, .ld false 1 (.t 18), none⟩,
           ⟨some 20, .mv (.t 4), none⟩,
           ⟨some 21, .iad 2 (.t 19) (.t 20), none⟩,
           ⟨some 22, .fad (.t 21) 0, none⟩,
           ⟨some 23, .ld false 1 (.t 22), none⟩,
           ⟨some 24, .bsl 3 [] 0 [], none⟩,
           ⟨some 25, .fad (.t 1) 1, none⟩,
           ⟨some 26, .ld false 1 (.t 25), none⟩,
           ⟨some 27, .mv (.t 4), none⟩,
           ⟨some 28, .iad 2 (.t 26) (.t 27), none⟩,
           ⟨some 29, .fad (.t 28) 1, none⟩,
           ⟨some 30, .ld false 1 (.t 29), none⟩,
           ⟨some 31, .app 3 32 (.t 24) (.t 30), none⟩,
           ⟨some 32, .build [(.v false (.int .i64 0)), (.nl 3)] [(0, 1, (.t 23)), (1, 1, (.t 31))], none⟩,
           ⟨some 33, .bsl 2 [.int .i64 0, .sl 3 []] 1 [(0, (.t 32))], none⟩,
           ⟨some 34, .app 2 32 (.t 17) (.t 33), none⟩,
           ⟨some 35, .fad (.t 3) 1, none⟩,
           ⟨none, .st 1 (.t 35) (.t 34), none⟩] (some [(1, 8), (3, 8), (5, 8), (7, 8), (8, 10), (8, 12), (8, 14), (1, 15), (3, 15), (5, 15), (7, 15), (1, 17)])))
        (.reg [1, 2, 3, 4] [] [
          ⟨some 14, .mv (.t 4), none⟩,
          ⟨some 15, .bin .add (.t 14) (.c (.v false (.int .i64 1))), none⟩,
          ⟨some 4, .mv (.t 15), none⟩] none))

def pb359 : PC :=
.seq (.reg [1, 2] [] [
   ⟨some 1, .box 2 (.t 0), none⟩,
   ⟨some 2, .alloc [(.v false (.int .i64 0)), (.nl 2)], none⟩] none)
 (.seq (.reg [1, 2, 3] [] [
    ⟨some 5, .fad (.t 1) 0, none⟩,
    ⟨some 6, .ld false 1 (.t 5), none⟩,
    ⟨some 7, .bsl 2 [] 0 [], none⟩,
    ⟨some 8, .build [(.v false (.int .i64 0)), (.nl 2)] [(0, 1, (.t 6)), (1, 1, (.t 7))], none⟩,
    ⟨some 3, .alloc [(.v false (.int .i64 0)), (.nl 2)], none⟩,
    ⟨none, .st 2 (.t 3) (.t 8), none⟩] none)
  (.seq (.seq (.reg [1, 2, 3, 4] [] [
      ⟨some 4, .mv (.c (.v false (.int .i64 0))), none⟩] none)
    (.blk 0 (.loop pl359_0)))
   (.seq (.reg [2] [] [
      ⟨some 36, .ld true 2 (.t 3), none⟩,
      ⟨none, .st 2 (.t 2) (.t 36), none⟩] none)
    (.ret))))

def pf359 : PF := ⟨[.b 2 2 true], [], pb359⟩

-- loop.example/g00496/spec.l1In
def pb377 : PC :=
.seq (.reg [0, 1, 2] [] [
   ⟨some 6, .mv (.c (.v false (.bool false))), none⟩] none)
 (.seq (.reg [6] [] [
    ⟨some 7, .mv (.t 0), none⟩,
    ⟨some 8, .mv (.t 1), none⟩,
    ⟨some 9, .bin .geq (.t 7) (.t 8), none⟩,
    ⟨some 10, .mv (.t 9), none⟩,
    ⟨some 11, .mv (.t 0), some (10, true)⟩,
    ⟨some 12, .mv (.t 2), some (10, true)⟩,
    ⟨some 13, .bin .leq (.t 11) (.t 12), some (10, true)⟩,
    ⟨some 14, .pick (.t 10) (.t 13) (.c (.v false (.bool false))), none⟩,
    ⟨some 6, .mv (.t 14), none⟩] none)
  (.ret))

def pf377 : PF := ⟨[.s 6], [], pb377⟩

end Go.Proofs.Ytloninhfmfggaaa.OM
