/- The texts of the functions, as the own machine runs them. -/
import Derived.Test.YtkgibccknlbiaaaOMDef
set_option linter.all false
namespace Go.Proofs.Ytkgibccknlbiaaa.OM
set_option maxRecDepth 100000

-- loop.example/g00496/impl.ChunkNew
def pb9 : PC :=
.seq (.reg [0, 2] [] [
   ⟨some 2, .alloc [(.v false (.int .i64 0)), (.nl 2)], none⟩] none)
 (.seq (.seq (.reg [0, 2, 5] [] [
     ⟨some 3, .mv (.t 0), none⟩,
     ⟨some 4, .call 87 [] [(.t 3), (.c (.v false (.int .i64 1))), (.c (.v false (.int .i64 4)))], none⟩,
     ⟨some 5, .un .not (.t 4), none⟩] none)
   (.cond (.t 5) (.reg [0, 2] [] [
      ⟨some 0, .mv (.c (.v false (.int .i64 1))), none⟩] none)
    (.skip)))
  (.seq (.reg [2] [] [
     ⟨some 6, .mv (.t 0), none⟩,
     ⟨some 7, .mks 2 32 [.int .i64 0, .sl 3 []] (.t 6), none⟩,
     ⟨some 8, .build [(.v false (.int .i64 0)), (.nl 2)] [(1, 1, (.t 7))], none⟩,
     ⟨none, .st 2 (.t 2) (.t 8), none⟩] none)
   (.ret)))

def pf9 : PF := ⟨[.b 2 2 true], [], pb9⟩

-- loop.example/g00496/impl.Take
def pl57_0 : PC :=
.seq (.reg [1, 2, 8, 13, 14, 15, 16] [] [
         ⟨some 16, .bin .lss (.t 15) (.t 14), none⟩] none)
       (.seq (.cond (.t 16) (.skip)
         (.exit 0))
        (.seq (.blk 1 (.seq (.reg [1, 2, 8, 9, 10, 13, 14, 15] [] [
             ⟨some 17, .mv (.t 15), none⟩,
             ⟨some 18, .iad 5 (.t 13) (.t 15), none⟩,
             ⟨some 19, .ld true 5 (.t 18), none⟩,
             ⟨some 10, .alloc [(.v false (.int .i64 0)), (.v false (.int .i64 0)), (.v false (.int .i64 0)), (.nl 2), (.nl 1)], none⟩,
             ⟨some 9, .mv (.t 17), none⟩,
             ⟨none, .std 5 (.t 10) (.t 19), none⟩] none)
           (.seq (.seq (.reg [1, 2, 8, 9, 10, 13, 14, 15, 22] [] [
               ⟨some 20, .fad (.t 10) 1, none⟩,
               ⟨some 21, .ld false 1 (.t 20), none⟩,
               ⟨some 22, .bin .neq (.t 21) (.c (.v false (.int .i64 0))), none⟩] none)
             (.cond (.t 22) (.exit 1)
              (.skip)))
            (.seq (.reg [1, 2, 8, 9, 10, 13, 14, 15, 23] [] [
               ⟨some 23, .mv (.t 1), none⟩] none)
             (.blk 2 (.seq (.reg [1, 2, 8, 9, 10, 13, 14, 15, 23, 24] [] [
                 ⟨some 25, .bin .eql (.t 23) (.c (.v false (.int .i64 1))), none⟩,
                 ⟨some 24, .mv (.t 25), none⟩] none)
               (.cond (.t 24) (.seq (.reg [8, 9] [] [
                   ⟨some 26, .mv (.t 8), none⟩,
                   ⟨some 27, .mv (.t 9), none⟩,
                   ⟨some 28, .fad (.t 10) 0, none⟩,
                   ⟨some 29, .ld false 1 (.t 28), none⟩,
                   ⟨some 30, .mv (.t 1), none⟩,
                   ⟨some 31, .mv (.t 2), none⟩,
                   ⟨some 32, .call 9 [] [(.t 31)], none⟩,
                   ⟨some 33, .build [(.v false (.int .i64 0)), (.v false (.int .i64 0)), (.v false (.int .i64 0)), (.nl 2), (.nl 1)] [(0, 1, (.t 29)), (1, 1, (.t 30)), (2, 2, (.t 32))], none⟩,
                   ⟨some 34, .iad 5 (.t 26) (.t 27), none⟩,
                   ⟨none, .st 5 (.t 34) (.t 33), none⟩] (some [(3, 6)]))
                 (.seq (.reg [6, 7, 8] [] [
                    ⟨some 35, .mv (.t 8), none⟩,
                    ⟨some 36, .mv (.t 9), none⟩,
                    ⟨some 6, .mv (.t 35), none⟩,
                    ⟨some 7, .mv (.t 36), none⟩] none)
                  (.ret)))
                (.seq (.reg [1, 2, 8, 9, 10, 13, 14, 15, 37] [] [
                   ⟨some 38, .bin .eql (.t 23) (.c (.v false (.int .i64 2))), none⟩,
                   ⟨some 37, .mv (.t 38), none⟩] none)
                 (.cond (.t 37) (.seq (.reg [8, 9] [] [
                     ⟨some 39, .mv (.t 8), none⟩,
                     ⟨some 40, .mv (.t 9), none⟩,
                     ⟨some 41, .fad (.t 10) 0, none⟩,
                     ⟨some 42, .ld false 1 (.t 41), none⟩,
                     ⟨some 43, .mv (.t 1), none⟩,
                     ⟨some 44, .bsl 1 [.int .u8 0] 1 [(0, (.c (.v false (.int .u8 0))))], none⟩,
                     ⟨some 45, .build [(.v false (.int .i64 0)), (.v false (.int .i64 0)), (.v false (.int .i64 0)), (.nl 2), (.nl 1)] [(0, 1, (.t 42)), (1, 1, (.t 43)), (4, 1, (.t 44))], none⟩,
                     ⟨some 46, .iad 5 (.t 39) (.t 40), none⟩,
                     ⟨none, .st 5 (.t 46) (.t 45), none⟩] none)
                   (.seq (.reg [6, 7, 8] [] [
                      ⟨some 47, .mv (.t 8), none⟩,
                      ⟨some 48, .mv (.t 9), none⟩,
                      ⟨some 6, .mv (.t 47), none⟩,
                      ⟨some 7, .mv (.t 48), none⟩] none)
                    (.ret)))
                  (.skip))))))))))
         (.reg [1, 2, 8, 13, 14, 15] [] [
           ⟨some 49, .bin .add (.t 15) (.c (.v false (.int .i64 1))), none⟩,
           ⟨some 15, .mv (.t 49), none⟩] none)))

def pb57 : PC :=
.seq (.reg [0, 1, 2] [] [
   ⟨some 6, .mv (.c (.nl 5)), none⟩,
   ⟨some 7, .mv (.c (.v false (.int .i64 0))), none⟩] none)
 (.seq (.reg [1, 2, 8] [(12, 8)] [
    ⟨some 11, .mv (.t 0), none⟩,
    ⟨some 12, .call 73 [] [(.t 11)], none⟩,
    ⟨some 8, .mv (.t 12), none⟩] none)
  (.seq (.seq (.reg [1, 2, 8, 13, 14, 15] [] [
      ⟨some 13, .mv (.t 8), none⟩,
      ⟨some 14, .len (.t 13), none⟩,
      ⟨some 15, .mv (.c (.v false (.int .i64 0))), none⟩] none)
    (.blk 0 (.loop pl57_0)))
   (.seq (.reg [6, 7, 8] [] [
      ⟨some 50, .mv (.t 8), none⟩,
      ⟨some 6, .mv (.t 50), none⟩,
      ⟨some 7, .mv (.c (.v false (.int .i64 (-1)))), none⟩] none)
    (.ret))))

def pf57 : PF := ⟨[.s 6, .s 7], [], pb57⟩

-- loop.example/g00496/impl.cloneBytes
def pb69 : PC :=
.seq (.reg [0] [] [
   ⟨some 2, .mv (.c (.nl 1)), none⟩] none)
 (.seq (.reg [2] [(5, 2)] [
    ⟨some 3, .bsl 1 [] 0 [], none⟩,
    ⟨some 4, .mv (.t 0), none⟩,
    ⟨some 5, .app 1 1 (.t 3) (.t 4), none⟩,
    ⟨some 2, .mv (.t 5), none⟩] none)
  (.ret))

def pf69 : PF := ⟨[.s 2], [], pb69⟩

-- loop.example/g00496/impl.cloneChunk
def pl70_0 : PC :=
.seq (.reg [1, 2, 3, 10, 11, 12, 13] [] [
         ⟨some 13, .bin .lss (.t 12) (.t 11), none⟩] none)
       (.seq (.cond (.t 13) (.skip)
         (.exit 0))
        (.seq (.blk 1 (.seq (.reg [1, 2, 3, 5, 10, 11, 12] [] [
             ⟨some 14, .iad 2 (.t 10) (.t 12), none⟩,
             ⟨some 15, .ld true 2 (.t 14), none⟩,
             ⟨some 5, .alloc [(.v false (.int .i64 0)), (.nl 3)], none⟩,
             ⟨none, .st 2 (.t 5) (.t 15), none⟩] none)
           (.reg [1, 2, 3, 10, 11, 12] [] [
             ⟨some 16, .fad (.t 3) 1, none⟩,
             ⟨some 17, .ld false 1 (.t 16), none⟩,
             ⟨some 18, .fad (.t 5) 0, none⟩,
             ⟨some 19, .ld false 1 (.t 18), none⟩,
             ⟨some 20, .fad (.t 5) 1, none⟩,
             ⟨some 21, .ld false 1 (.t 20), none⟩,
             ⟨some 22, .call 76 [] [(.t 21)], none⟩,
             ⟨some 23, .build [(.v false (.int .i64 0)), (.nl 3)] [(0, 1, (.t 19)), (1, 1, (.t 22))], none⟩,
             ⟨some 24, .bsl 2 [.int .i64 0, .sl 3 []] 1 [(0, (.t 23))], none⟩,
             ⟨some 25, .app 2 32 (.t 17) (.t 24), none⟩,
             ⟨some 26, .fad (.t 3) 1, none⟩,
             ⟨none, .st 1 (.t 26) (.t 25), none⟩] (some [(1, 6), (3, 6), (1, 8)]))))
         (.reg [1, 2, 3, 10, 11, 12] [] [
           ⟨some 27, .bin .add (.t 12) (.c (.v false (.int .i64 1))), none⟩,
           ⟨some 12, .mv (.t 27), none⟩] none)))

def pb70 : PC :=
.seq (.reg [1, 2] [] [
   ⟨some 1, .box 2 (.t 0), none⟩,
   ⟨some 2, .alloc [(.v false (.int .i64 0)), (.nl 2)], none⟩] none)
 (.seq (.reg [1, 2, 3] [] [
    ⟨some 6, .fad (.t 1) 0, none⟩,
    ⟨some 7, .ld false 1 (.t 6), none⟩,
    ⟨some 8, .build [(.v false (.int .i64 0)), (.nl 2)] [(0, 1, (.t 7))], none⟩,
    ⟨some 3, .alloc [(.v false (.int .i64 0)), (.nl 2)], none⟩,
    ⟨none, .st 2 (.t 3) (.t 8), none⟩] none)
  (.seq (.seq (.reg [1, 2, 3, 10, 11, 12] [] [
      ⟨some 9, .fad (.t 1) 1, none⟩,
      ⟨some 10, .ld false 1 (.t 9), none⟩,
      ⟨some 11, .len (.t 10), none⟩,
      ⟨some 12, .mv (.c (.v false (.int .i64 0))), none⟩] none)
    (.blk 0 (.loop pl70_0)))
   (.seq (.reg [2] [] [
      ⟨some 28, .ld true 2 (.t 3), none⟩,
      ⟨none, .st 2 (.t 2) (.t 28), none⟩] none)
    (.ret))))

def pf70 : PF := ⟨[.b 2 2 true], [], pb70⟩

-- loop.example/g00496/impl.clonePool
def pl73_0 : PC :=
.seq (.reg [3, 7, 8, 9, 10] [] [
         ⟨some 10, .bin .lss (.t 9) (.t 8), none⟩] none)
       (.seq (.cond (.t 10) (.skip)
         (.exit 0))
        (.seq (.blk 1 (.seq (.reg [3, 5, 7, 8, 9] [] [
             ⟨some 11, .iad 5 (.t 7) (.t 9), none⟩,
             ⟨some 12, .ld true 5 (.t 11), none⟩,
             ⟨some 5, .alloc [(.v false (.int .i64 0)), (.v false (.int .i64 0)), (.v false (.int .i64 0)), (.nl 2), (.nl 1)], none⟩,
             ⟨none, .st 5 (.t 5) (.t 12), none⟩] none)
           (.reg [3, 7, 8, 9] [(26, 3)] [
             ⟨some 13, .mv (.t 3), none⟩,
             ⟨some 14, .fad (.t 5) 0, none⟩,
             ⟨some 15, .ld false 1 (.t 14), none⟩,
             ⟨some 16, .fad (.t 5) 1, none⟩,
             ⟨some 17, .ld false 1 (.t 16), none⟩,
             ⟨some 18, .fad (.t 5) 2, none⟩,
             ⟨some 19, .ld true 2 (.t 18), none⟩,
             ⟨some 20, .call 70 [] [(.t 19)], none⟩,
             ⟨some 21, .fad (.t 5) 4, none⟩,
             ⟨some 22, .ld false 1 (.t 21), none⟩,
             ⟨some 23, .call 69 [] [(.t 22)], none⟩,
             ⟨some 24, .build [(.v false (.int .i64 0)), (.v false (.int .i64 0)), (.v false (.int .i64 0)), (.nl 2), (.nl 1)] [(0, 1, (.t 15)), (1, 1, (.t 17)), (2, 2, (.t 20)), (4, 1, (.t 23))], none⟩,
             ⟨some 25, .bsl 5 [.int .i64 0, .int .i64 0, .int .i64 0, .sl 2 [], .sl 1 []] 1 [(0, (.t 24))], none⟩,
             ⟨some 26, .app 5 72 (.t 13) (.t 25), none⟩,
             ⟨some 3, .mv (.t 26), none⟩] (some [(2, 7), (4, 7), (7, 9), (2, 10), (4, 10)]))))
         (.reg [3, 7, 8, 9] [] [
           ⟨some 27, .bin .add (.t 9) (.c (.v false (.int .i64 1))), none⟩,
           ⟨some 9, .mv (.t 27), none⟩] none)))

def pb73 : PC :=
.seq (.reg [0] [] [
   ⟨some 2, .mv (.c (.nl 5)), none⟩] none)
 (.seq (.reg [0, 3] [(6, 3)] [
    ⟨some 6, .bsl 5 [] 0 [], none⟩,
    ⟨some 3, .mv (.t 6), none⟩] none)
  (.seq (.seq (.reg [3, 7, 8, 9] [] [
      ⟨some 7, .mv (.t 0), none⟩,
      ⟨some 8, .len (.t 7), none⟩,
      ⟨some 9, .mv (.c (.v false (.int .i64 0))), none⟩] none)
    (.blk 0 (.loop pl73_0)))
   (.seq (.reg [2, 3] [] [
      ⟨some 28, .mv (.t 3), none⟩,
      ⟨some 2, .mv (.t 28), none⟩] none)
    (.ret))))

def pf73 : PF := ⟨[.s 2], [], pb73⟩

-- loop.example/g00496/impl.cloneVals
def pb76 : PC :=
.seq (.reg [0] [] [
   ⟨some 2, .mv (.c (.nl 3)), none⟩] none)
 (.seq (.reg [2] [(5, 2)] [
    ⟨some 3, .bsl 3 [] 0 [], none⟩,
    ⟨some 4, .mv (.t 0), none⟩,
    ⟨some 5, .app 3 32 (.t 3) (.t 4), none⟩,
    ⟨some 2, .mv (.t 5), none⟩] none)
  (.ret))

def pf76 : PF := ⟨[.s 2], [], pb76⟩

-- loop.example/g00496/impl.within
def pb87 : PC :=
.seq (.reg [0, 1, 2] [] [
   ⟨some 6, .mv (.c (.v false (.bool false))), none⟩] none)
 (.seq (.reg [6] [] [
    ⟨some 7, .mv (.t 0), none⟩,
    ⟨some 8, .mv (.t 1), none⟩,
    ⟨some 9, .bin .geq (.t 7) (.t 8), none⟩,
    ⟨some 10, .mv (.t 9), none⟩,
    ⟨some 11, .mv (.t 0), some (10, true)⟩,
    ⟨some 12, .mv (.t 2), some (10, true)⟩,
    ⟨some 13, .bin .leq (.t 11) (.t 12), some (10, true)⟩,
    ⟨some 14, .pick (.t 10) (.t 13) (.c (.v false (.bool false))), none⟩,
    ⟨some 6, .mv (.t 14), none⟩] none)
  (.ret))

def pf87 : PF := ⟨[.s 6], [], pb87⟩

-- loop.example/g00496/laws.FnExactTake
def pb131 : PC :=
.seq (.reg [0, 1, 2] [] [
   ⟨some 6, .mv (.c (.v false (.bool false))), none⟩] none)
 (.seq (.reg [0, 1, 2, 7] [] [
    ⟨some 7, .mv (.c (.v false (.int .i64 1048576))), none⟩] none)
  (.seq (.reg [0, 1, 2, 7] [(20, 7)] [
     ⟨some 18, .mv (.t 0), none⟩,
     ⟨some 19, .mv (.t 7), none⟩,
     ⟨some 20, .call 211 [] [(.t 18), (.t 19)], none⟩,
     ⟨some 7, .mv (.t 20), none⟩] none)
   (.seq (.seq (.reg [0, 1, 2, 22] [] [
       ⟨some 21, .mv (.t 7), none⟩,
       ⟨some 22, .bin .lss (.t 21) (.c (.v false (.int .i64 0))), none⟩] none)
     (.cond (.t 22) (.seq (.reg [6] [] [
         ⟨some 6, .mv (.c (.v false (.bool true))), none⟩] none)
       (.ret))
      (.skip)))
    (.seq (.reg [0, 1, 2, 8, 9] [(28, 8)] [
       ⟨some 24, .mv (.t 0), none⟩,
       ⟨some 25, .call 235 [] [(.t 24)], none⟩,
       ⟨some 26, .mv (.t 1), none⟩,
       ⟨some 27, .mv (.t 2), none⟩,
       ⟨some 28, .call 338 [] [(.t 25), (.t 26), (.t 27)], none⟩,
       ⟨some 23, .mv (.t 28), none⟩,
       ⟨some 29, .ext (.t 23) 0, none⟩,
       ⟨some 30, .ext (.t 23) 1, none⟩,
       ⟨some 8, .mv (.t 29), none⟩,
       ⟨some 9, .mv (.t 30), none⟩] none)
     (.seq (.reg [0, 1, 2, 8, 9, 10] [(32, 10)] [
        ⟨some 31, .mv (.t 0), none⟩,
        ⟨some 32, .call 235 [] [(.t 31)], none⟩,
        ⟨some 10, .mv (.t 32), none⟩] none)
      (.seq (.reg [0, 1, 2, 8, 9, 10, 11, 12] [(37, 11)] [
         ⟨some 34, .mv (.t 10), none⟩,
         ⟨some 35, .mv (.t 1), none⟩,
         ⟨some 36, .mv (.t 2), none⟩,
         ⟨some 37, .call 57 [] [(.t 34), (.t 35), (.t 36)], none⟩,
         ⟨some 33, .mv (.t 37), none⟩,
         ⟨some 38, .ext (.t 33) 0, none⟩,
         ⟨some 39, .ext (.t 33) 1, none⟩,
         ⟨some 11, .mv (.t 38), none⟩,
         ⟨some 12, .mv (.t 39), none⟩] none)
       (.seq (.seq (.reg [0, 1, 2, 8, 9, 10, 11, 12, 48] [] [
           ⟨some 40, .mv (.t 11), none⟩,
           ⟨some 41, .mv (.t 8), none⟩,
           ⟨some 42, .call 143 [] [(.t 40), (.t 41)], none⟩,
           ⟨some 43, .un .not (.t 42), none⟩,
           ⟨some 44, .mv (.t 43), none⟩,
           ⟨some 45, .mv (.t 12), some (44, false)⟩,
           ⟨some 46, .mv (.t 9), some (44, false)⟩,
           ⟨some 47, .bin .neq (.t 45) (.t 46), some (44, false)⟩,
           ⟨some 48, .pick (.t 44) (.c (.v false (.bool true))) (.t 47), none⟩] none)
         (.cond (.t 48) (.seq (.reg [6] [] [
             ⟨some 6, .mv (.c (.v false (.bool false))), none⟩] none)
           (.ret))
          (.skip)))
        (.seq (.seq (.reg [0, 1, 2, 8, 9, 10, 11, 12, 53] [] [
            ⟨some 49, .mv (.t 10), none⟩,
            ⟨some 50, .mv (.t 0), none⟩,
            ⟨some 51, .call 235 [] [(.t 50)], none⟩,
            ⟨some 52, .call 143 [] [(.t 49), (.t 51)], none⟩,
            ⟨some 53, .un .not (.t 52), none⟩] none)
          (.cond (.t 53) (.seq (.reg [6] [] [
              ⟨some 6, .mv (.c (.v false (.bool false))), none⟩] none)
            (.ret))
           (.skip)))
         (.seq (.reg [0, 1, 2, 8, 9, 10, 11, 12, 13] [] [
            ⟨some 13, .mv (.c (.v false (.int .i64 1))), none⟩] none)
          (.seq (.reg [0, 1, 2, 8, 9, 11, 12, 13] [(56, 13)] [
             ⟨some 54, .mv (.t 10), none⟩,
             ⟨some 55, .mv (.t 13), none⟩,
             ⟨some 56, .call 183 [0] [(.t 54), (.t 55)], none⟩,
             ⟨some 13, .mv (.t 56), none⟩] none)
           (.seq (.seq (.reg [0, 1, 2, 8, 9, 11, 69] [] [
               ⟨some 57, .mv (.t 13), none⟩,
               ⟨some 58, .bin .lss (.t 57) (.c (.v false (.int .i64 0))), none⟩,
               ⟨some 59, .mv (.t 58), none⟩,
               ⟨some 60, .mv (.t 11), some (59, false)⟩,
               ⟨some 61, .mv (.t 8), some (59, false)⟩,
               ⟨some 62, .call 143 [] [(.t 60), (.t 61)], some (59, false)⟩,
               ⟨some 63, .un .not (.t 62), some (59, false)⟩,
               ⟨some 64, .pick (.t 59) (.c (.v false (.bool true))) (.t 63), none⟩,
               ⟨some 65, .mv (.t 64), none⟩,
               ⟨some 66, .mv (.t 12), some (65, false)⟩,
               ⟨some 67, .mv (.t 9), some (65, false)⟩,
               ⟨some 68, .bin .neq (.t 66) (.t 67), some (65, false)⟩,
               ⟨some 69, .pick (.t 65) (.c (.v false (.bool true))) (.t 68), none⟩] none)
             (.cond (.t 69) (.seq (.reg [6] [] [
                 ⟨some 6, .mv (.c (.v false (.bool false))), none⟩] none)
               (.ret))
              (.skip)))
            (.seq (.reg [0, 1, 2, 8, 9, 11, 14] [] [
               ⟨some 14, .mv (.c (.v false (.int .i64 1))), none⟩] none)
             (.seq (.reg [0, 1, 2, 8, 9, 11, 14] [(72, 14)] [
                ⟨some 70, .mv (.t 11), none⟩,
                ⟨some 71, .mv (.t 14), none⟩,
                ⟨some 72, .call 183 [0] [(.t 70), (.t 71)], none⟩,
                ⟨some 14, .mv (.t 72), none⟩] none)
              (.seq (.reg [0, 1, 2, 8, 9, 11, 14, 15] [] [
                 ⟨some 15, .mv (.c (.v false (.int .i64 1))), none⟩] none)
               (.seq (.reg [0, 1, 2, 8, 9, 11, 14, 15] [(75, 15)] [
                  ⟨some 73, .mv (.t 11), none⟩,
                  ⟨some 74, .mv (.t 15), none⟩,
                  ⟨some 75, .call 168 [] [(.t 73), (.t 74)], none⟩,
                  ⟨some 15, .mv (.t 75), none⟩] none)
                (.seq (.seq (.reg [0, 1, 2, 8, 9, 11, 14, 15, 77] [] [
                    ⟨some 76, .mv (.t 15), none⟩,
                    ⟨some 77, .bin .lss (.t 76) (.c (.v false (.int .i64 0))), none⟩] none)
                  (.cond (.t 77) (.seq (.reg [6] [] [
                      ⟨some 6, .mv (.c (.v false (.bool false))), none⟩] none)
                    (.ret))
                   (.skip)))
                 (.seq (.seq (.reg [0, 1, 2, 8, 9, 11, 14, 80] [] [
                     ⟨some 78, .mv (.t 15), none⟩,
                     ⟨some 79, .mv (.t 14), none⟩,
                     ⟨some 80, .bin .neq (.t 78) (.t 79), none⟩] none)
                   (.cond (.t 80) (.seq (.reg [6] [] [
                       ⟨some 6, .mv (.c (.v false (.bool false))), none⟩] none)
                     (.ret))
                    (.skip)))
                  (.seq (.reg [8, 9, 11, 14, 16, 17] [(86, 16)] [
                     ⟨some 82, .mv (.t 0), none⟩,
                     ⟨some 83, .call 235 [] [(.t 82)], none⟩,
                     ⟨some 84, .mv (.t 1), none⟩,
                     ⟨some 85, .mv (.t 2), none⟩,
                     ⟨some 86, .call 57 [] [(.t 83), (.t 84), (.t 85)], none⟩,
                     ⟨some 81, .mv (.t 86), none⟩,
                     ⟨some 87, .ext (.t 81) 0, none⟩,
                     ⟨some 88, .ext (.t 81) 1, none⟩,
                     ⟨some 16, .mv (.t 87), none⟩,
                     ⟨some 17, .mv (.t 88), none⟩] none)
                   (.seq (.seq (.reg [11, 14, 97] [] [
                       ⟨some 89, .mv (.t 16), none⟩,
                       ⟨some 90, .mv (.t 8), none⟩,
                       ⟨some 91, .call 143 [] [(.t 89), (.t 90)], none⟩,
                       ⟨some 92, .un .not (.t 91), none⟩,
                       ⟨some 93, .mv (.t 92), none⟩,
                       ⟨some 94, .mv (.t 17), some (93, false)⟩,
                       ⟨some 95, .mv (.t 9), some (93, false)⟩,
                       ⟨some 96, .bin .neq (.t 94) (.t 95), some (93, false)⟩,
                       ⟨some 97, .pick (.t 93) (.c (.v false (.bool true))) (.t 96), none⟩] none)
                     (.cond (.t 97) (.seq (.reg [6] [] [
                         ⟨some 6, .mv (.c (.v false (.bool false))), none⟩] none)
                       (.ret))
                      (.skip)))
                    (.seq (.reg [11, 14, 15] [] [
                       ⟨some 15, .mv (.c (.v false (.int .i64 1))), none⟩] none)
                     (.seq (.reg [14, 15] [(100, 15)] [
                        ⟨some 98, .mv (.t 11), none⟩,
                        ⟨some 99, .mv (.t 15), none⟩,
                        ⟨some 100, .call 168 [] [(.t 98), (.t 99)], none⟩,
                        ⟨some 15, .mv (.t 100), none⟩] none)
                      (.seq (.seq (.reg [14, 15, 102] [] [
                          ⟨some 101, .mv (.t 15), none⟩,
                          ⟨some 102, .bin .lss (.t 101) (.c (.v false (.int .i64 0))), none⟩] none)
                        (.cond (.t 102) (.seq (.reg [6] [] [
                            ⟨some 6, .mv (.c (.v false (.bool false))), none⟩] none)
                          (.ret))
                         (.skip)))
                       (.seq (.seq (.reg [105] [] [
                           ⟨some 103, .mv (.t 15), none⟩,
                           ⟨some 104, .mv (.t 14), none⟩,
                           ⟨some 105, .bin .neq (.t 103) (.t 104), none⟩] none)
                         (.cond (.t 105) (.seq (.reg [6] [] [
                             ⟨some 6, .mv (.c (.v false (.bool false))), none⟩] none)
                           (.ret))
                          (.skip)))
                        (.seq (.reg [6] [] [
                           ⟨some 6, .mv (.c (.v false (.bool true))), none⟩] none)
                         (.ret)))))))))))))))))))))))))

def pf131 : PF := ⟨[.s 6], [], pb131⟩

-- loop.example/g00496/laws.eqBuf
def pb142 : PC :=
.seq (.reg [2, 3] [] [
   ⟨some 2, .box 5 (.t 0), none⟩,
   ⟨some 3, .box 5 (.t 1), none⟩,
   ⟨some 4, .mv (.c (.v false (.bool false))), none⟩] none)
 (.seq (.seq (.reg [2, 3, 9] [] [
     ⟨some 5, .fad (.t 2) 0, none⟩,
     ⟨some 6, .ld false 1 (.t 5), none⟩,
     ⟨some 7, .fad (.t 3) 0, none⟩,
     ⟨some 8, .ld false 1 (.t 7), none⟩,
     ⟨some 9, .bin .neq (.t 6) (.t 8), none⟩] none)
   (.cond (.t 9) (.seq (.reg [4] [] [
       ⟨some 4, .mv (.c (.v false (.bool false))), none⟩] none)
     (.ret))
    (.skip)))
  (.seq (.seq (.reg [2, 3, 14] [] [
      ⟨some 10, .fad (.t 2) 1, none⟩,
      ⟨some 11, .ld false 1 (.t 10), none⟩,
      ⟨some 12, .fad (.t 3) 1, none⟩,
      ⟨some 13, .ld false 1 (.t 12), none⟩,
      ⟨some 14, .bin .neq (.t 11) (.t 13), none⟩] none)
    (.cond (.t 14) (.seq (.reg [4] [] [
        ⟨some 4, .mv (.c (.v false (.bool false))), none⟩] none)
      (.ret))
     (.skip)))
   (.seq (.seq (.reg [2, 3, 20] [] [
       ⟨some 15, .fad (.t 2) 2, none⟩,
       ⟨some 16, .ld true 2 (.t 15), none⟩,
       ⟨some 17, .fad (.t 3) 2, none⟩,
       ⟨some 18, .ld true 2 (.t 17), none⟩,
       ⟨some 19, .call 145 [] [(.t 16), (.t 18)], none⟩,
       ⟨some 20, .un .not (.t 19), none⟩] none)
     (.cond (.t 20) (.seq (.reg [4] [] [
         ⟨some 4, .mv (.c (.v false (.bool false))), none⟩] none)
       (.ret))
      (.skip)))
    (.seq (.seq (.reg [26] [] [
        ⟨some 21, .fad (.t 2) 4, none⟩,
        ⟨some 22, .ld false 1 (.t 21), none⟩,
        ⟨some 23, .fad (.t 3) 4, none⟩,
        ⟨some 24, .ld false 1 (.t 23), none⟩,
        ⟨some 25, .call 144 [] [(.t 22), (.t 24)], none⟩,
        ⟨some 26, .un .not (.t 25), none⟩] none)
      (.cond (.t 26) (.seq (.reg [4] [] [
          ⟨some 4, .mv (.c (.v false (.bool false))), none⟩] none)
        (.ret))
       (.skip)))
     (.seq (.reg [4] [] [
        ⟨some 4, .mv (.c (.v false (.bool true))), none⟩] none)
      (.ret))))))

def pf142 : PF := ⟨[.s 4], [], pb142⟩

-- loop.example/g00496/laws.eqBufS
def pl143_0 : PC :=
.seq (.seq (.reg [0, 1, 5, 14] [] [
          ⟨some 11, .mv (.t 5), none⟩,
          ⟨some 12, .mv (.t 0), none⟩,
          ⟨some 13, .len (.t 12), none⟩,
          ⟨some 14, .bin .lss (.t 11) (.t 13), none⟩] none)
        (.cond (.t 14) (.skip)
         (.exit 0)))
       (.seq (.blk 1 (.seq (.reg [0, 1, 5, 26] [] [
            ⟨some 17, .mv (.t 0), none⟩,
            ⟨some 18, .mv (.t 5), none⟩,
            ⟨some 19, .iad 5 (.t 17) (.t 18), none⟩,
            ⟨some 20, .ld true 5 (.t 19), none⟩,
            ⟨some 21, .mv (.t 1), none⟩,
            ⟨some 22, .mv (.t 5), none⟩,
            ⟨some 23, .iad 5 (.t 21) (.t 22), none⟩,
            ⟨some 24, .ld true 5 (.t 23), none⟩,
            ⟨some 25, .call 142 [] [(.t 20), (.t 24)], none⟩,
            ⟨some 26, .un .not (.t 25), none⟩] (some []))
          (.cond (.t 26) (.seq (.reg [4] [] [
              ⟨some 4, .mv (.c (.v false (.bool false))), none⟩] none)
            (.ret))
           (.skip))))
        (.reg [0, 1, 5] [] [
          ⟨some 15, .mv (.t 5), none⟩,
          ⟨some 16, .bin .add (.t 15) (.c (.v false (.int .i64 1))), none⟩,
          ⟨some 5, .mv (.t 16), none⟩] none))

def pb143 : PC :=
.seq (.reg [0, 1] [] [
   ⟨some 4, .mv (.c (.v false (.bool false))), none⟩] none)
 (.seq (.seq (.reg [0, 1, 10] [] [
     ⟨some 6, .mv (.t 0), none⟩,
     ⟨some 7, .len (.t 6), none⟩,
     ⟨some 8, .mv (.t 1), none⟩,
     ⟨some 9, .len (.t 8), none⟩,
     ⟨some 10, .bin .neq (.t 7) (.t 9), none⟩] none)
   (.cond (.t 10) (.seq (.reg [4] [] [
       ⟨some 4, .mv (.c (.v false (.bool false))), none⟩] none)
     (.ret))
    (.skip)))
  (.seq (.seq (.reg [0, 1, 5] [] [
      ⟨some 5, .mv (.c (.v false (.int .i64 0))), none⟩] none)
    (.blk 0 (.loop pl143_0)))
   (.seq (.reg [4] [] [
      ⟨some 4, .mv (.c (.v false (.bool true))), none⟩] none)
    (.ret))))

def pf143 : PF := ⟨[.s 4], [], pb143⟩

-- loop.example/g00496/laws.eqByteS
def pl144_0 : PC :=
.seq (.seq (.reg [0, 1, 5, 14] [] [
          ⟨some 11, .mv (.t 5), none⟩,
          ⟨some 12, .mv (.t 0), none⟩,
          ⟨some 13, .len (.t 12), none⟩,
          ⟨some 14, .bin .lss (.t 11) (.t 13), none⟩] none)
        (.cond (.t 14) (.skip)
         (.exit 0)))
       (.seq (.blk 1 (.seq (.reg [0, 1, 5, 25] [] [
            ⟨some 17, .mv (.t 0), none⟩,
            ⟨some 18, .mv (.t 5), none⟩,
            ⟨some 19, .iad 1 (.t 17) (.t 18), none⟩,
            ⟨some 20, .ld false 1 (.t 19), none⟩,
            ⟨some 21, .mv (.t 1), none⟩,
            ⟨some 22, .mv (.t 5), none⟩,
            ⟨some 23, .iad 1 (.t 21) (.t 22), none⟩,
            ⟨some 24, .ld false 1 (.t 23), none⟩,
            ⟨some 25, .bin .neq (.t 20) (.t 24), none⟩] (some []))
          (.cond (.t 25) (.seq (.reg [4] [] [
              ⟨some 4, .mv (.c (.v false (.bool false))), none⟩] none)
            (.ret))
           (.skip))))
        (.reg [0, 1, 5] [] [
          ⟨some 15, .mv (.t 5), none⟩,
          ⟨some 16, .bin .add (.t 15) (.c (.v false (.int .i64 1))), none⟩,
          ⟨some 5, .mv (.t 16), none⟩] none))

def pb144 : PC :=
.seq (.reg [0, 1] [] [
   ⟨some 4, .mv (.c (.v false (.bool false))), none⟩] none)
 (.seq (.seq (.reg [0, 1, 10] [] [
     ⟨some 6, .mv (.t 0), none⟩,
     ⟨some 7, .len (.t 6), none⟩,
     ⟨some 8, .mv (.t 1), none⟩,
     ⟨some 9, .len (.t 8), none⟩,
     ⟨some 10, .bin .neq (.t 7) (.t 9), none⟩] none)
   (.cond (.t 10) (.seq (.reg [4] [] [
       ⟨some 4, .mv (.c (.v false (.bool false))), none⟩] none)
     (.ret))
    (.skip)))
  (.seq (.seq (.reg [0, 1, 5] [] [
      ⟨some 5, .mv (.c (.v false (.int .i64 0))), none⟩] none)
    (.blk 0 (.loop pl144_0)))
   (.seq (.reg [4] [] [
      ⟨some 4, .mv (.c (.v false (.bool true))), none⟩] none)
    (.ret))))

def pf144 : PF := ⟨[.s 4], [], pb144⟩

-- loop.example/g00496/laws.eqChunk
def pb145 : PC :=
.seq (.reg [2, 3] [] [
   ⟨some 2, .box 2 (.t 0), none⟩,
   ⟨some 3, .box 2 (.t 1), none⟩,
   ⟨some 4, .mv (.c (.v false (.bool false))), none⟩] none)
 (.seq (.seq (.reg [2, 3, 9] [] [
     ⟨some 5, .fad (.t 2) 0, none⟩,
     ⟨some 6, .ld false 1 (.t 5), none⟩,
     ⟨some 7, .fad (.t 3) 0, none⟩,
     ⟨some 8, .ld false 1 (.t 7), none⟩,
     ⟨some 9, .bin .neq (.t 6) (.t 8), none⟩] none)
   (.cond (.t 9) (.seq (.reg [4] [] [
       ⟨some 4, .mv (.c (.v false (.bool false))), none⟩] none)
     (.ret))
    (.skip)))
  (.seq (.seq (.reg [15] [] [
      ⟨some 10, .fad (.t 2) 1, none⟩,
      ⟨some 11, .ld false 1 (.t 10), none⟩,
      ⟨some 12, .fad (.t 3) 1, none⟩,
      ⟨some 13, .ld false 1 (.t 12), none⟩,
      ⟨some 14, .call 162 [] [(.t 11), (.t 13)], none⟩,
      ⟨some 15, .un .not (.t 14), none⟩] none)
    (.cond (.t 15) (.seq (.reg [4] [] [
        ⟨some 4, .mv (.c (.v false (.bool false))), none⟩] none)
      (.ret))
     (.skip)))
   (.seq (.reg [4] [] [
      ⟨some 4, .mv (.c (.v false (.bool true))), none⟩] none)
    (.ret))))

def pf145 : PF := ⟨[.s 4], [], pb145⟩

-- loop.example/g00496/laws.eqSlot
def pb161 : PC :=
.seq (.reg [2, 3] [] [
   ⟨some 2, .box 2 (.t 0), none⟩,
   ⟨some 3, .box 2 (.t 1), none⟩,
   ⟨some 4, .mv (.c (.v false (.bool false))), none⟩] none)
 (.seq (.seq (.reg [2, 3, 9] [] [
     ⟨some 5, .fad (.t 2) 0, none⟩,
     ⟨some 6, .ld false 1 (.t 5), none⟩,
     ⟨some 7, .fad (.t 3) 0, none⟩,
     ⟨some 8, .ld false 1 (.t 7), none⟩,
     ⟨some 9, .bin .neq (.t 6) (.t 8), none⟩] none)
   (.cond (.t 9) (.seq (.reg [4] [] [
       ⟨some 4, .mv (.c (.v false (.bool false))), none⟩] none)
     (.ret))
    (.skip)))
  (.seq (.seq (.reg [15] [] [
      ⟨some 10, .fad (.t 2) 1, none⟩,
      ⟨some 11, .ld false 1 (.t 10), none⟩,
      ⟨some 12, .fad (.t 3) 1, none⟩,
      ⟨some 13, .ld false 1 (.t 12), none⟩,
      ⟨some 14, .call 166 [] [(.t 11), (.t 13)], none⟩,
      ⟨some 15, .un .not (.t 14), none⟩] none)
    (.cond (.t 15) (.seq (.reg [4] [] [
        ⟨some 4, .mv (.c (.v false (.bool false))), none⟩] none)
      (.ret))
     (.skip)))
   (.seq (.reg [4] [] [
      ⟨some 4, .mv (.c (.v false (.bool true))), none⟩] none)
    (.ret))))

def pf161 : PF := ⟨[.s 4], [], pb161⟩

-- loop.example/g00496/laws.eqSlotS
def pl162_0 : PC :=
.seq (.seq (.reg [0, 1, 5, 14] [] [
          ⟨some 11, .mv (.t 5), none⟩,
          ⟨some 12, .mv (.t 0), none⟩,
          ⟨some 13, .len (.t 12), none⟩,
          ⟨some 14, .bin .lss (.t 11) (.t 13), none⟩] none)
        (.cond (.t 14) (.skip)
         (.exit 0)))
       (.seq (.blk 1 (.seq (.reg [0, 1, 5, 26] [] [
            ⟨some 17, .mv (.t 0), none⟩,
            ⟨some 18, .mv (.t 5), none⟩,
            ⟨some 19, .iad 2 (.t 17) (.t 18), none⟩,
            ⟨some 20, .ld true 2 (.t 19), none⟩,
            ⟨some 21, .mv (.t 1), none⟩,
            ⟨some 22, .mv (.t 5), none⟩,
            ⟨some 23, .iad 2 (.t 21) (.t 22), none⟩,
            ⟨some 24, .ld true 2 (.t 23), none⟩,
            ⟨some 25, .call 161 [] [(.t 20), (.t 24)], none⟩,
            ⟨some 26, .un .not (.t 25), none⟩] (some []))
          (.cond (.t 26) (.seq (.reg [4] [] [
              ⟨some 4, .mv (.c (.v false (.bool false))), none⟩] none)
            (.ret))
           (.skip))))
        (.reg [0, 1, 5] [] [
          ⟨some 15, .mv (.t 5), none⟩,
          ⟨some 16, .bin .add (.t 15) (.c (.v false (.int .i64 1))), none⟩,
          ⟨some 5, .mv (.t 16), none⟩] none))

def pb162 : PC :=
.seq (.reg [0, 1] [] [
   ⟨some 4, .mv (.c (.v false (.bool false))), none⟩] none)
 (.seq (.seq (.reg [0, 1, 10] [] [
     ⟨some 6, .mv (.t 0), none⟩,
     ⟨some 7, .len (.t 6), none⟩,
     ⟨some 8, .mv (.t 1), none⟩,
     ⟨some 9, .len (.t 8), none⟩,
     ⟨some 10, .bin .neq (.t 7) (.t 9), none⟩] none)
   (.cond (.t 10) (.seq (.reg [4] [] [
       ⟨some 4, .mv (.c (.v false (.bool false))), none⟩] none)
     (.ret))
    (.skip)))
  (.seq (.seq (.reg [0, 1, 5] [] [
      ⟨some 5, .mv (.c (.v false (.int .i64 0))), none⟩] none)
    (.blk 0 (.loop pl162_0)))
   (.seq (.reg [4] [] [
      ⟨some 4, .mv (.c (.v false (.bool true))), none⟩] none)
    (.ret))))

def pf162 : PF := ⟨[.s 4], [], pb162⟩

-- loop.example/g00496/laws.eqVal
def pb165 : PC :=
.seq (.reg [2, 3] [] [
   ⟨some 2, .box 3 (.t 0), none⟩,
   ⟨some 3, .box 3 (.t 1), none⟩,
   ⟨some 4, .mv (.c (.v false (.bool false))), none⟩] none)
 (.seq (.seq (.reg [2, 3, 9] [] [
     ⟨some 5, .fad (.t 2) 0, none⟩,
     ⟨some 6, .ld false 1 (.t 5), none⟩,
     ⟨some 7, .fad (.t 3) 0, none⟩,
     ⟨some 8, .ld false 1 (.t 7), none⟩,
     ⟨some 9, .bin .neq (.t 6) (.t 8), none⟩] none)
   (.cond (.t 9) (.seq (.reg [4] [] [
       ⟨some 4, .mv (.c (.v false (.bool false))), none⟩] none)
     (.ret))
    (.skip)))
  (.seq (.seq (.reg [2, 3, 14] [] [
      ⟨some 10, .fad (.t 2) 1, none⟩,
      ⟨some 11, .ld false 1 (.t 10), none⟩,
      ⟨some 12, .fad (.t 3) 1, none⟩,
      ⟨some 13, .ld false 1 (.t 12), none⟩,
      ⟨some 14, .bin .neq (.t 11) (.t 13), none⟩] none)
    (.cond (.t 14) (.seq (.reg [4] [] [
        ⟨some 4, .mv (.c (.v false (.bool false))), none⟩] none)
      (.ret))
     (.skip)))
   (.seq (.seq (.reg [19] [] [
       ⟨some 15, .fad (.t 2) 2, none⟩,
       ⟨some 16, .ld false 1 (.t 15), none⟩,
       ⟨some 17, .fad (.t 3) 2, none⟩,
       ⟨some 18, .ld false 1 (.t 17), none⟩,
       ⟨some 19, .bin .neq (.t 16) (.t 18), none⟩] none)
     (.cond (.t 19) (.seq (.reg [4] [] [
         ⟨some 4, .mv (.c (.v false (.bool false))), none⟩] none)
       (.ret))
      (.skip)))
    (.seq (.reg [4] [] [
       ⟨some 4, .mv (.c (.v false (.bool true))), none⟩] none)
     (.ret)))))

def pf165 : PF := ⟨[.s 4], [], pb165⟩

-- loop.example/g00496/laws.eqValS
def pl166_0 : PC :=
.seq (.seq (.reg [0, 1, 5, 14] [] [
          ⟨some 11, .mv (.t 5), none⟩,
          ⟨some 12, .mv (.t 0), none⟩,
          ⟨some 13, .len (.t 12), none⟩,
          ⟨some 14, .bin .lss (.t 11) (.t 13), none⟩] none)
        (.cond (.t 14) (.skip)
         (.exit 0)))
       (.seq (.blk 1 (.seq (.reg [0, 1, 5, 26] [] [
            ⟨some 17, .mv (.t 0), none⟩,
            ⟨some 18, .mv (.t 5), none⟩,
            ⟨some 19, .iad 3 (.t 17) (.t 18), none⟩,
            ⟨some 20, .ld true 3 (.t 19), none⟩,
            ⟨some 21, .mv (.t 1), none⟩,
            ⟨some 22, .mv (.t 5), none⟩,
            ⟨some 23, .iad 3 (.t 21) (.t 22), none⟩,
            ⟨some 24, .ld true 3 (.t 23), none⟩,
            ⟨some 25, .call 165 [] [(.t 20), (.t 24)], none⟩,
            ⟨some 26, .un .not (.t 25), none⟩] (some []))
          (.cond (.t 26) (.seq (.reg [4] [] [
              ⟨some 4, .mv (.c (.v false (.bool false))), none⟩] none)
            (.ret))
           (.skip))))
        (.reg [0, 1, 5] [] [
          ⟨some 15, .mv (.t 5), none⟩,
          ⟨some 16, .bin .add (.t 15) (.c (.v false (.int .i64 1))), none⟩,
          ⟨some 5, .mv (.t 16), none⟩] none))

def pb166 : PC :=
.seq (.reg [0, 1] [] [
   ⟨some 4, .mv (.c (.v false (.bool false))), none⟩] none)
 (.seq (.seq (.reg [0, 1, 10] [] [
     ⟨some 6, .mv (.t 0), none⟩,
     ⟨some 7, .len (.t 6), none⟩,
     ⟨some 8, .mv (.t 1), none⟩,
     ⟨some 9, .len (.t 8), none⟩,
     ⟨some 10, .bin .neq (.t 7) (.t 9), none⟩] none)
   (.cond (.t 10) (.seq (.reg [4] [] [
       ⟨some 4, .mv (.c (.v false (.bool false))), none⟩] none)
     (.ret))
    (.skip)))
  (.seq (.seq (.reg [0, 1, 5] [] [
      ⟨some 5, .mv (.c (.v false (.int .i64 0))), none⟩] none)
    (.blk 0 (.loop pl166_0)))
   (.seq (.reg [4] [] [
      ⟨some 4, .mv (.c (.v false (.bool true))), none⟩] none)
    (.ret))))

def pf166 : PF := ⟨[.s 4], [], pb166⟩

-- loop.example/g00496/laws.heldBufS
def pl168_0 : PC :=
.seq (.seq (.reg [0, 1, 5, 9] [] [
         ⟨some 6, .mv (.t 5), none⟩,
         ⟨some 7, .mv (.t 0), none⟩,
         ⟨some 8, .len (.t 7), none⟩,
         ⟨some 9, .bin .lss (.t 6) (.t 8), none⟩] none)
       (.cond (.t 9) (.skip)
        (.exit 0)))
      (.seq (.blk 1 (.seq (.seq (.reg [0, 1, 5, 18] [] [
            ⟨some 12, .mv (.t 0), none⟩,
            ⟨some 13, .mv (.t 5), none⟩,
            ⟨some 14, .iad 5 (.t 12) (.t 13), none⟩,
            ⟨some 15, .fad (.t 14) 0, none⟩,
            ⟨some 16, .ld false 1 (.t 15), none⟩,
            ⟨some 17, .mv (.t 1), none⟩,
            ⟨some 18, .bin .neq (.t 16) (.t 17), none⟩] none)
          (.cond (.t 18) (.seq (.reg [4] [] [
              ⟨some 4, .mv (.c (.v false (.int .i64 (-1)))), none⟩] none)
            (.ret))
           (.skip)))
         (.seq (.reg [0, 1, 5] [] [
            ⟨some 19, .mv (.t 1), none⟩,
            ⟨some 20, .bin .add (.t 19) (.c (.v false (.int .i64 1))), none⟩,
            ⟨some 1, .mv (.t 20), none⟩] none)
          (.seq (.seq (.reg [0, 1, 5, 27] [] [
              ⟨some 21, .mv (.t 0), none⟩,
              ⟨some 22, .mv (.t 5), none⟩,
              ⟨some 23, .iad 5 (.t 21) (.t 22), none⟩,
              ⟨some 24, .fad (.t 23) 1, none⟩,
              ⟨some 25, .ld false 1 (.t 24), none⟩,
              ⟨some 26, .mv (.t 1), none⟩,
              ⟨some 27, .bin .neq (.t 25) (.t 26), none⟩] none)
            (.cond (.t 27) (.seq (.reg [4] [] [
                ⟨some 4, .mv (.c (.v false (.int .i64 (-1)))), none⟩] none)
              (.ret))
             (.skip)))
           (.seq (.reg [0, 1, 5] [] [
              ⟨some 28, .mv (.t 1), none⟩,
              ⟨some 29, .bin .add (.t 28) (.c (.v false (.int .i64 1))), none⟩,
              ⟨some 1, .mv (.t 29), none⟩] none)
            (.seq (.seq (.reg [0, 1, 5, 37] [] [
                ⟨some 30, .mv (.t 0), none⟩,
                ⟨some 31, .mv (.t 5), none⟩,
                ⟨some 32, .iad 5 (.t 30) (.t 31), none⟩,
                ⟨some 33, .fad (.t 32) 2, none⟩,
                ⟨some 34, .fad (.t 33) 0, none⟩,
                ⟨some 35, .ld false 1 (.t 34), none⟩,
                ⟨some 36, .mv (.t 1), none⟩,
                ⟨some 37, .bin .neq (.t 35) (.t 36), none⟩] none)
              (.cond (.t 37) (.seq (.reg [4] [] [
                  ⟨some 4, .mv (.c (.v false (.int .i64 (-1)))), none⟩] none)
                (.ret))
               (.skip)))
             (.seq (.reg [0, 1, 5] [] [
                ⟨some 38, .mv (.t 1), none⟩,
                ⟨some 39, .bin .add (.t 38) (.c (.v false (.int .i64 1))), none⟩,
                ⟨some 1, .mv (.t 39), none⟩] none)
              (.seq (.reg [0, 1, 5] [(47, 1)] [
                 ⟨some 40, .mv (.t 0), none⟩,
                 ⟨some 41, .mv (.t 5), none⟩,
                 ⟨some 42, .iad 5 (.t 40) (.t 41), none⟩,
                 ⟨some 43, .fad (.t 42) 2, none⟩,
                 ⟨some 44, .fad (.t 43) 1, none⟩,
                 ⟨some 45, .ld false 1 (.t 44), none⟩,
                 ⟨some 46, .mv (.t 1), none⟩,
                 ⟨some 47, .call 179 [] [(.t 45), (.t 46)], none⟩,
                 ⟨some 1, .mv (.t 47), none⟩] none)
               (.seq (.seq (.reg [0, 1, 5, 49] [] [
                   ⟨some 48, .mv (.t 1), none⟩,
                   ⟨some 49, .bin .lss (.t 48) (.c (.v false (.int .i64 0))), none⟩] none)
                 (.cond (.t 49) (.seq (.reg [4] [] [
                     ⟨some 4, .mv (.c (.v false (.int .i64 (-1)))), none⟩] none)
                   (.ret))
                  (.skip)))
                (.seq (.reg [0, 1, 5] [(56, 1)] [
                   ⟨some 50, .mv (.t 0), none⟩,
                   ⟨some 51, .mv (.t 5), none⟩,
                   ⟨some 52, .iad 5 (.t 50) (.t 51), none⟩,
                   ⟨some 53, .fad (.t 52) 4, none⟩,
                   ⟨some 54, .ld false 1 (.t 53), none⟩,
                   ⟨some 55, .mv (.t 1), none⟩,
                   ⟨some 56, .call 169 [] [(.t 54), (.t 55)], none⟩,
                   ⟨some 1, .mv (.t 56), none⟩] none)
                 (.seq (.reg [0, 1, 5, 58] [] [
                    ⟨some 57, .mv (.t 1), none⟩,
                    ⟨some 58, .bin .lss (.t 57) (.c (.v false (.int .i64 0))), none⟩] none)
                  (.cond (.t 58) (.seq (.reg [4] [] [
                      ⟨some 4, .mv (.c (.v false (.int .i64 (-1)))), none⟩] none)
                    (.ret))
                   (.skip)))))))))))))
       (.reg [0, 1, 5] [] [
         ⟨some 10, .mv (.t 5), none⟩,
         ⟨some 11, .bin .add (.t 10) (.c (.v false (.int .i64 1))), none⟩,
         ⟨some 5, .mv (.t 11), none⟩] none))

def pb168 : PC :=
.seq (.reg [0, 1] [] [
   ⟨some 4, .mv (.c (.v false (.int .i64 0))), none⟩] none)
 (.seq (.seq (.reg [0, 1, 5] [] [
     ⟨some 5, .mv (.c (.v false (.int .i64 0))), none⟩] none)
   (.blk 0 (.loop pl168_0)))
  (.seq (.reg [1, 4] [] [
     ⟨some 59, .mv (.t 1), none⟩,
     ⟨some 4, .mv (.t 59), none⟩] none)
   (.ret)))

def pf168 : PF := ⟨[.s 4], [], pb168⟩

-- loop.example/g00496/laws.heldByteS
def pl169_0 : PC :=
.seq (.seq (.reg [0, 1, 5, 9] [] [
         ⟨some 6, .mv (.t 5), none⟩,
         ⟨some 7, .mv (.t 0), none⟩,
         ⟨some 8, .len (.t 7), none⟩,
         ⟨some 9, .bin .lss (.t 6) (.t 8), none⟩] none)
       (.cond (.t 9) (.skip)
        (.exit 0)))
      (.seq (.blk 1 (.seq (.seq (.reg [0, 1, 5, 18] [] [
            ⟨some 12, .mv (.t 0), none⟩,
            ⟨some 13, .mv (.t 5), none⟩,
            ⟨some 14, .iad 1 (.t 12) (.t 13), none⟩,
            ⟨some 15, .ld false 1 (.t 14), none⟩,
            ⟨some 16, .mv (.t 1), none⟩,
            ⟨some 17, .cvi .u8 (.t 16), none⟩,
            ⟨some 18, .bin .neq (.t 15) (.t 17), none⟩] none)
          (.cond (.t 18) (.seq (.reg [4] [] [
              ⟨some 4, .mv (.c (.v false (.int .i64 (-1)))), none⟩] none)
            (.ret))
           (.skip)))
         (.reg [0, 1, 5] [] [
           ⟨some 19, .mv (.t 1), none⟩,
           ⟨some 20, .bin .add (.t 19) (.c (.v false (.int .i64 1))), none⟩,
           ⟨some 1, .mv (.t 20), none⟩] none)))
       (.reg [0, 1, 5] [] [
         ⟨some 10, .mv (.t 5), none⟩,
         ⟨some 11, .bin .add (.t 10) (.c (.v false (.int .i64 1))), none⟩,
         ⟨some 5, .mv (.t 11), none⟩] none))

def pb169 : PC :=
.seq (.reg [0, 1] [] [
   ⟨some 4, .mv (.c (.v false (.int .i64 0))), none⟩] none)
 (.seq (.seq (.reg [0, 1, 5] [] [
     ⟨some 5, .mv (.c (.v false (.int .i64 0))), none⟩] none)
   (.blk 0 (.loop pl169_0)))
  (.seq (.reg [4] [] [
     ⟨some 21, .mv (.t 1), none⟩,
     ⟨some 4, .mv (.t 21), none⟩] none)
   (.ret)))

def pf169 : PF := ⟨[.s 4], [], pb169⟩

-- loop.example/g00496/laws.heldSlotS
def pl179_0 : PC :=
.seq (.seq (.reg [0, 1, 5, 9] [] [
         ⟨some 6, .mv (.t 5), none⟩,
         ⟨some 7, .mv (.t 0), none⟩,
         ⟨some 8, .len (.t 7), none⟩,
         ⟨some 9, .bin .lss (.t 6) (.t 8), none⟩] none)
       (.cond (.t 9) (.skip)
        (.exit 0)))
      (.seq (.blk 1 (.seq (.seq (.reg [0, 1, 5, 18] [] [
            ⟨some 12, .mv (.t 0), none⟩,
            ⟨some 13, .mv (.t 5), none⟩,
            ⟨some 14, .iad 2 (.t 12) (.t 13), none⟩,
            ⟨some 15, .fad (.t 14) 0, none⟩,
            ⟨some 16, .ld false 1 (.t 15), none⟩,
            ⟨some 17, .mv (.t 1), none⟩,
            ⟨some 18, .bin .neq (.t 16) (.t 17), none⟩] none)
          (.cond (.t 18) (.seq (.reg [4] [] [
              ⟨some 4, .mv (.c (.v false (.int .i64 (-1)))), none⟩] none)
            (.ret))
           (.skip)))
         (.seq (.reg [0, 1, 5] [] [
            ⟨some 19, .mv (.t 1), none⟩,
            ⟨some 20, .bin .add (.t 19) (.c (.v false (.int .i64 1))), none⟩,
            ⟨some 1, .mv (.t 20), none⟩] none)
          (.seq (.reg [0, 1, 5] [(27, 1)] [
             ⟨some 21, .mv (.t 0), none⟩,
             ⟨some 22, .mv (.t 5), none⟩,
             ⟨some 23, .iad 2 (.t 21) (.t 22), none⟩,
             ⟨some 24, .fad (.t 23) 1, none⟩,
             ⟨some 25, .ld false 1 (.t 24), none⟩,
             ⟨some 26, .mv (.t 1), none⟩,
             ⟨some 27, .call 181 [] [(.t 25), (.t 26)], none⟩,
             ⟨some 1, .mv (.t 27), none⟩] none)
           (.seq (.reg [0, 1, 5, 29] [] [
              ⟨some 28, .mv (.t 1), none⟩,
              ⟨some 29, .bin .lss (.t 28) (.c (.v false (.int .i64 0))), none⟩] none)
            (.cond (.t 29) (.seq (.reg [4] [] [
                ⟨some 4, .mv (.c (.v false (.int .i64 (-1)))), none⟩] none)
              (.ret))
             (.skip)))))))
       (.reg [0, 1, 5] [] [
         ⟨some 10, .mv (.t 5), none⟩,
         ⟨some 11, .bin .add (.t 10) (.c (.v false (.int .i64 1))), none⟩,
         ⟨some 5, .mv (.t 11), none⟩] none))

def pb179 : PC :=
.seq (.reg [0, 1] [] [
   ⟨some 4, .mv (.c (.v false (.int .i64 0))), none⟩] none)
 (.seq (.seq (.reg [0, 1, 5] [] [
     ⟨some 5, .mv (.c (.v false (.int .i64 0))), none⟩] none)
   (.blk 0 (.loop pl179_0)))
  (.seq (.reg [1, 4] [] [
     ⟨some 30, .mv (.t 1), none⟩,
     ⟨some 4, .mv (.t 30), none⟩] none)
   (.ret)))

def pf179 : PF := ⟨[.s 4], [], pb179⟩

-- loop.example/g00496/laws.heldValS
def pl181_0 : PC :=
.seq (.seq (.reg [0, 1, 5, 9] [] [
         ⟨some 6, .mv (.t 5), none⟩,
         ⟨some 7, .mv (.t 0), none⟩,
         ⟨some 8, .len (.t 7), none⟩,
         ⟨some 9, .bin .lss (.t 6) (.t 8), none⟩] none)
       (.cond (.t 9) (.skip)
        (.exit 0)))
      (.seq (.blk 1 (.seq (.seq (.reg [0, 1, 5, 18] [] [
            ⟨some 12, .mv (.t 0), none⟩,
            ⟨some 13, .mv (.t 5), none⟩,
            ⟨some 14, .iad 3 (.t 12) (.t 13), none⟩,
            ⟨some 15, .fad (.t 14) 0, none⟩,
            ⟨some 16, .ld false 1 (.t 15), none⟩,
            ⟨some 17, .mv (.t 1), none⟩,
            ⟨some 18, .bin .neq (.t 16) (.t 17), none⟩] none)
          (.cond (.t 18) (.seq (.reg [4] [] [
              ⟨some 4, .mv (.c (.v false (.int .i64 (-1)))), none⟩] none)
            (.ret))
           (.skip)))
         (.seq (.reg [0, 1, 5] [] [
            ⟨some 19, .mv (.t 1), none⟩,
            ⟨some 20, .bin .add (.t 19) (.c (.v false (.int .i64 1))), none⟩,
            ⟨some 1, .mv (.t 20), none⟩] none)
          (.seq (.seq (.reg [0, 1, 5, 27] [] [
              ⟨some 21, .mv (.t 0), none⟩,
              ⟨some 22, .mv (.t 5), none⟩,
              ⟨some 23, .iad 3 (.t 21) (.t 22), none⟩,
              ⟨some 24, .fad (.t 23) 1, none⟩,
              ⟨some 25, .ld false 1 (.t 24), none⟩,
              ⟨some 26, .mv (.t 1), none⟩,
              ⟨some 27, .bin .neq (.t 25) (.t 26), none⟩] none)
            (.cond (.t 27) (.seq (.reg [4] [] [
                ⟨some 4, .mv (.c (.v false (.int .i64 (-1)))), none⟩] none)
              (.ret))
             (.skip)))
           (.seq (.reg [0, 1, 5] [] [
              ⟨some 28, .mv (.t 1), none⟩,
              ⟨some 29, .bin .add (.t 28) (.c (.v false (.int .i64 1))), none⟩,
              ⟨some 1, .mv (.t 29), none⟩] none)
            (.seq (.seq (.reg [0, 1, 5, 37] [] [
                ⟨some 30, .mv (.t 0), none⟩,
                ⟨some 31, .mv (.t 5), none⟩,
                ⟨some 32, .iad 3 (.t 30) (.t 31), none⟩,
                ⟨some 33, .fad (.t 32) 2, none⟩,
                ⟨some 34, .ld false 1 (.t 33), none⟩,
                ⟨some 35, .mv (.t 1), none⟩,
                ⟨some 36, .call 196 [] [(.t 35)], none⟩,
                ⟨some 37, .bin .neq (.t 34) (.t 36), none⟩] (some [(2, 6), (4, 6)]))
              (.cond (.t 37) (.seq (.reg [4] [] [
                  ⟨some 4, .mv (.c (.v false (.int .i64 (-1)))), none⟩] none)
                (.ret))
               (.skip)))
             (.reg [0, 1, 5] [] [
               ⟨some 38, .mv (.t 1), none⟩,
               ⟨some 39, .bin .add (.t 38) (.c (.v false (.int .i64 1))), none⟩,
               ⟨some 1, .mv (.t 39), none⟩] none)))))))
       (.reg [0, 1, 5] [] [
         ⟨some 10, .mv (.t 5), none⟩,
         ⟨some 11, .bin .add (.t 10) (.c (.v false (.int .i64 1))), none⟩,
         ⟨some 5, .mv (.t 11), none⟩] none))

def pb181 : PC :=
.seq (.reg [0, 1] [] [
   ⟨some 4, .mv (.c (.v false (.int .i64 0))), none⟩] none)
 (.seq (.seq (.reg [0, 1, 5] [] [
     ⟨some 5, .mv (.c (.v false (.int .i64 0))), none⟩] none)
   (.blk 0 (.loop pl181_0)))
  (.seq (.reg [4] [] [
     ⟨some 40, .mv (.t 1), none⟩,
     ⟨some 4, .mv (.t 40), none⟩] none)
   (.ret)))

def pf181 : PF := ⟨[.s 4], [], pb181⟩

-- loop.example/g00496/laws.markBufS
def pl183_0 : PC :=
.seq (.seq (.reg [0, 1, 5, 9] [] [
         ⟨some 6, .mv (.t 5), none⟩,
         ⟨some 7, .mv (.t 0), none⟩,
         ⟨some 8, .len (.t 7), none⟩,
         ⟨some 9, .bin .lss (.t 6) (.t 8), none⟩] none)
       (.cond (.t 9) (.skip)
        (.exit 0)))
      (.seq (.blk 1 (.seq (.reg [0, 1, 5] [] [
           ⟨some 12, .mv (.t 0), none⟩,
           ⟨some 13, .mv (.t 5), none⟩,
           ⟨some 14, .mv (.t 1), none⟩,
           ⟨some 15, .iad 5 (.t 12) (.t 13), none⟩,
           ⟨some 16, .fad (.t 15) 0, none⟩,
           ⟨none, .st 1 (.t 16) (.t 14), none⟩] none)
         (.seq (.reg [0, 1, 5] [] [
            ⟨some 17, .mv (.t 1), none⟩,
            ⟨some 18, .bin .add (.t 17) (.c (.v false (.int .i64 1))), none⟩,
            ⟨some 1, .mv (.t 18), none⟩] none)
          (.seq (.reg [0, 1, 5] [] [
             ⟨some 19, .mv (.t 0), none⟩,
             ⟨some 20, .mv (.t 5), none⟩,
             ⟨some 21, .mv (.t 1), none⟩,
             ⟨some 22, .iad 5 (.t 19) (.t 20), none⟩,
             ⟨some 23, .fad (.t 22) 1, none⟩,
             ⟨none, .st 1 (.t 23) (.t 21), none⟩] none)
           (.seq (.reg [0, 1, 5] [] [
              ⟨some 24, .mv (.t 1), none⟩,
              ⟨some 25, .bin .add (.t 24) (.c (.v false (.int .i64 1))), none⟩,
              ⟨some 1, .mv (.t 25), none⟩] none)
            (.seq (.reg [0, 1, 5] [] [
               ⟨some 26, .mv (.t 0), none⟩,
               ⟨some 27, .mv (.t 5), none⟩,
               ⟨some 28, .mv (.t 1), none⟩,
               ⟨some 29, .iad 5 (.t 26) (.t 27), none⟩,
               ⟨some 30, .fad (.t 29) 2, none⟩,
               ⟨some 31, .fad (.t 30) 0, none⟩,
               ⟨none, .st 1 (.t 31) (.t 28), none⟩] none)
             (.seq (.reg [0, 1, 5] [] [
                ⟨some 32, .mv (.t 1), none⟩,
                ⟨some 33, .bin .add (.t 32) (.c (.v false (.int .i64 1))), none⟩,
                ⟨some 1, .mv (.t 33), none⟩] none)
              (.seq (.reg [0, 1, 5] [(41, 1)] [
                 ⟨some 34, .mv (.t 0), none⟩,
                 ⟨some 35, .mv (.t 5), none⟩,
                 ⟨some 36, .iad 5 (.t 34) (.t 35), none⟩,
                 ⟨some 37, .fad (.t 36) 2, none⟩,
                 ⟨some 38, .fad (.t 37) 1, none⟩,
                 ⟨some 39, .ld false 1 (.t 38), none⟩,
                 ⟨some 40, .mv (.t 1), none⟩,
                 ⟨some 41, .call 194 [0] [(.t 39), (.t 40)], none⟩,
                 ⟨some 1, .mv (.t 41), none⟩] none)
               (.reg [0, 1, 5] [(48, 1)] [
                 ⟨some 42, .mv (.t 0), none⟩,
                 ⟨some 43, .mv (.t 5), none⟩,
                 ⟨some 44, .iad 5 (.t 42) (.t 43), none⟩,
                 ⟨some 45, .fad (.t 44) 4, none⟩,
                 ⟨some 46, .ld false 1 (.t 45), none⟩,
                 ⟨some 47, .mv (.t 1), none⟩,
                 ⟨some 48, .call 184 [0] [(.t 46), (.t 47)], none⟩,
                 ⟨some 1, .mv (.t 48), none⟩] none)))))))))
       (.reg [0, 1, 5] [] [
         ⟨some 10, .mv (.t 5), none⟩,
         ⟨some 11, .bin .add (.t 10) (.c (.v false (.int .i64 1))), none⟩,
         ⟨some 5, .mv (.t 11), none⟩] none))

def pb183 : PC :=
.seq (.reg [0, 1] [] [
   ⟨some 4, .mv (.c (.v false (.int .i64 0))), none⟩] none)
 (.seq (.seq (.reg [0, 1, 5] [] [
     ⟨some 5, .mv (.c (.v false (.int .i64 0))), none⟩] none)
   (.blk 0 (.loop pl183_0)))
  (.seq (.reg [0, 1, 4] [] [
     ⟨some 49, .mv (.t 1), none⟩,
     ⟨some 4, .mv (.t 49), none⟩] none)
   (.ret)))

def pf183 : PF := ⟨[.s 4], [0], pb183⟩

-- loop.example/g00496/laws.markByteS
def pl184_0 : PC :=
.seq (.seq (.reg [0, 1, 5, 9] [] [
         ⟨some 6, .mv (.t 5), none⟩,
         ⟨some 7, .mv (.t 0), none⟩,
         ⟨some 8, .len (.t 7), none⟩,
         ⟨some 9, .bin .lss (.t 6) (.t 8), none⟩] none)
       (.cond (.t 9) (.skip)
        (.exit 0)))
      (.seq (.blk 1 (.seq (.reg [0, 1, 5] [] [
           ⟨some 12, .mv (.t 0), none⟩,
           ⟨some 13, .mv (.t 5), none⟩,
           ⟨some 14, .mv (.t 1), none⟩,
           ⟨some 15, .cvi .u8 (.t 14), none⟩,
           ⟨some 16, .iad 1 (.t 12) (.t 13), none⟩,
           ⟨none, .st 1 (.t 16) (.t 15), none⟩] none)
         (.reg [0, 1, 5] [] [
           ⟨some 17, .mv (.t 1), none⟩,
           ⟨some 18, .bin .add (.t 17) (.c (.v false (.int .i64 1))), none⟩,
           ⟨some 1, .mv (.t 18), none⟩] none)))
       (.reg [0, 1, 5] [] [
         ⟨some 10, .mv (.t 5), none⟩,
         ⟨some 11, .bin .add (.t 10) (.c (.v false (.int .i64 1))), none⟩,
         ⟨some 5, .mv (.t 11), none⟩] none))

def pb184 : PC :=
.seq (.reg [0, 1] [] [
   ⟨some 4, .mv (.c (.v false (.int .i64 0))), none⟩] none)
 (.seq (.seq (.reg [0, 1, 5] [] [
     ⟨some 5, .mv (.c (.v false (.int .i64 0))), none⟩] none)
   (.blk 0 (.loop pl184_0)))
  (.seq (.reg [0, 4] [] [
     ⟨some 19, .mv (.t 1), none⟩,
     ⟨some 4, .mv (.t 19), none⟩] none)
   (.ret)))

def pf184 : PF := ⟨[.s 4], [0], pb184⟩

-- loop.example/g00496/laws.markSlotS
def pl194_0 : PC :=
.seq (.seq (.reg [0, 1, 5, 9] [] [
         ⟨some 6, .mv (.t 5), none⟩,
         ⟨some 7, .mv (.t 0), none⟩,
         ⟨some 8, .len (.t 7), none⟩,
         ⟨some 9, .bin .lss (.t 6) (.t 8), none⟩] none)
       (.cond (.t 9) (.skip)
        (.exit 0)))
      (.seq (.blk 1 (.seq (.reg [0, 1, 5] [] [
           ⟨some 12, .mv (.t 0), none⟩,
           ⟨some 13, .mv (.t 5), none⟩,
           ⟨some 14, .mv (.t 1), none⟩,
           ⟨some 15, .iad 2 (.t 12) (.t 13), none⟩,
           ⟨some 16, .fad (.t 15) 0, none⟩,
           ⟨none, .st 1 (.t 16) (.t 14), none⟩] none)
         (.seq (.reg [0, 1, 5] [] [
            ⟨some 17, .mv (.t 1), none⟩,
            ⟨some 18, .bin .add (.t 17) (.c (.v false (.int .i64 1))), none⟩,
            ⟨some 1, .mv (.t 18), none⟩] none)
          (.reg [0, 1, 5] [(25, 1)] [
            ⟨some 19, .mv (.t 0), none⟩,
            ⟨some 20, .mv (.t 5), none⟩,
            ⟨some 21, .iad 2 (.t 19) (.t 20), none⟩,
            ⟨some 22, .fad (.t 21) 1, none⟩,
            ⟨some 23, .ld false 1 (.t 22), none⟩,
            ⟨some 24, .mv (.t 1), none⟩,
            ⟨some 25, .call 197 [0] [(.t 23), (.t 24)], none⟩,
            ⟨some 1, .mv (.t 25), none⟩] none))))
       (.reg [0, 1, 5] [] [
         ⟨some 10, .mv (.t 5), none⟩,
         ⟨some 11, .bin .add (.t 10) (.c (.v false (.int .i64 1))), none⟩,
         ⟨some 5, .mv (.t 11), none⟩] none))

def pb194 : PC :=
.seq (.reg [0, 1] [] [
   ⟨some 4, .mv (.c (.v false (.int .i64 0))), none⟩] none)
 (.seq (.seq (.reg [0, 1, 5] [] [
     ⟨some 5, .mv (.c (.v false (.int .i64 0))), none⟩] none)
   (.blk 0 (.loop pl194_0)))
  (.seq (.reg [0, 1, 4] [] [
     ⟨some 26, .mv (.t 1), none⟩,
     ⟨some 4, .mv (.t 26), none⟩] none)
   (.ret)))

def pf194 : PF := ⟨[.s 4], [0], pb194⟩

-- loop.example/g00496/laws.markText
def pl196_0 : PC :=
.seq (.seq (.reg [0, 3, 7] [] [
          ⟨some 6, .mv (.t 0), none⟩,
          ⟨some 7, .bin .gtr (.t 6) (.c (.v false (.int .i64 0))), none⟩] none)
        (.cond (.t 7) (.skip)
         (.exit 0)))
       (.blk 1 (.seq (.reg [0, 3] [] [
           ⟨some 8, .mv (.t 0), none⟩,
           ⟨some 9, .bin .rem (.t 8) (.c (.v false (.int .i64 10))), none⟩,
           ⟨some 10, .bin .add (.c (.v false (.int .i64 48))) (.t 9), none⟩,
           ⟨some 11, .cvi .u8 (.t 10), none⟩,
           ⟨some 12, .bsl 1 [.int .u8 0] 1 [(0, (.t 11))], none⟩,
           ⟨some 13, .cvs (.t 12), none⟩,
           ⟨some 14, .mv (.t 3), none⟩,
           ⟨some 15, .bin .add (.t 13) (.t 14), none⟩,
           ⟨some 3, .mv (.t 15), none⟩] none)
         (.reg [0, 3] [] [
           ⟨some 16, .mv (.t 0), none⟩,
           ⟨some 17, .bin .quo (.t 16) (.c (.v false (.int .i64 10))), none⟩,
           ⟨some 0, .mv (.t 17), none⟩] none)))

def pb196 : PC :=
.seq (.reg [0] [] [
   ⟨some 2, .mv (.c (.v false (.str ⟨#[]⟩))), none⟩] none)
 (.seq (.seq (.reg [0, 5] [] [
     ⟨some 4, .mv (.t 0), none⟩,
     ⟨some 5, .bin .leq (.t 4) (.c (.v false (.int .i64 0))), none⟩] none)
   (.cond (.t 5) (.seq (.reg [2] [] [
       ⟨some 2, .mv (.c (.v false (.str ⟨#[109, 48]⟩))), none⟩] none)
     (.ret))
    (.skip)))
  (.seq (.reg [0, 3] [] [
     ⟨some 3, .mv (.c (.v false (.str ⟨#[]⟩))), none⟩] none)
   (.seq (.blk 0 (.loop pl196_0))
    (.seq (.reg [2] [] [
       ⟨some 18, .mv (.t 3), none⟩,
       ⟨some 19, .bin .add (.c (.v false (.str ⟨#[109]⟩))) (.t 18), none⟩,
       ⟨some 2, .mv (.t 19), none⟩] none)
     (.ret)))))

def pf196 : PF := ⟨[.s 2], [], pb196⟩

-- loop.example/g00496/laws.markValS
def pl197_0 : PC :=
.seq (.seq (.reg [0, 1, 5, 9] [] [
         ⟨some 6, .mv (.t 5), none⟩,
         ⟨some 7, .mv (.t 0), none⟩,
         ⟨some 8, .len (.t 7), none⟩,
         ⟨some 9, .bin .lss (.t 6) (.t 8), none⟩] none)
       (.cond (.t 9) (.skip)
        (.exit 0)))
      (.seq (.blk 1 (.seq (.reg [0, 1, 5] [] [
           ⟨some 12, .mv (.t 0), none⟩,
           ⟨some 13, .mv (.t 5), none⟩,
           ⟨some 14, .mv (.t 1), none⟩,
           ⟨some 15, .iad 3 (.t 12) (.t 13), none⟩,
           ⟨some 16, .fad (.t 15) 0, none⟩,
           ⟨none, .st 1 (.t 16) (.t 14), none⟩] none)
         (.seq (.reg [0, 1, 5] [] [
            ⟨some 17, .mv (.t 1), none⟩,
            ⟨some 18, .bin .add (.t 17) (.c (.v false (.int .i64 1))), none⟩,
            ⟨some 1, .mv (.t 18), none⟩] none)
          (.seq (.reg [0, 1, 5] [] [
             ⟨some 19, .mv (.t 0), none⟩,
             ⟨some 20, .mv (.t 5), none⟩,
             ⟨some 21, .mv (.t 1), none⟩,
             ⟨some 22, .iad 3 (.t 19) (.t 20), none⟩,
             ⟨some 23, .fad (.t 22) 1, none⟩,
             ⟨none, .st 1 (.t 23) (.t 21), none⟩] none)
           (.seq (.reg [0, 1, 5] [] [
              ⟨some 24, .mv (.t 1), none⟩,
              ⟨some 25, .bin .add (.t 24) (.c (.v false (.int .i64 1))), none⟩,
              ⟨some 1, .mv (.t 25), none⟩] none)
            (.seq (.reg [0, 1, 5] [] [
               ⟨some 26, .mv (.t 0), none⟩,
               ⟨some 27, .mv (.t 5), none⟩,
               ⟨some 28, .mv (.t 1), none⟩,
               ⟨some 29, .call 196 [] [(.t 28)], none⟩,
               ⟨some 30, .iad 3 (.t 26) (.t 27), none⟩,
               ⟨some 31, .fad (.t 30) 2, none⟩,
               ⟨none, .st 1 (.t 31) (.t 29), none⟩] none)
             (.reg [0, 1, 5] [] [
               ⟨some 32, .mv (.t 1), none⟩,
               ⟨some 33, .bin .add (.t 32) (.c (.v false (.int .i64 1))), none⟩,
               ⟨some 1, .mv (.t 33), none⟩] none)))))))
       (.reg [0, 1, 5] [] [
         ⟨some 10, .mv (.t 5), none⟩,
         ⟨some 11, .bin .add (.t 10) (.c (.v false (.int .i64 1))), none⟩,
         ⟨some 5, .mv (.t 11), none⟩] none))

def pb197 : PC :=
.seq (.reg [0, 1] [] [
   ⟨some 4, .mv (.c (.v false (.int .i64 0))), none⟩] none)
 (.seq (.seq (.reg [0, 1, 5] [] [
     ⟨some 5, .mv (.c (.v false (.int .i64 0))), none⟩] none)
   (.blk 0 (.loop pl197_0)))
  (.seq (.reg [0, 4] [] [
     ⟨some 34, .mv (.t 1), none⟩,
     ⟨some 4, .mv (.t 34), none⟩] none)
   (.ret)))

def pf197 : PF := ⟨[.s 4], [0], pb197⟩

-- loop.example/g00496/laws.szBuf
def pb210 : PC :=
.seq (.reg [1, 2] [] [
   ⟨some 2, .box 5 (.t 0), none⟩,
   ⟨some 4, .mv (.c (.v false (.int .i64 0))), none⟩] none)
 (.seq (.reg [1, 2] [(8, 1)] [
    ⟨some 5, .fad (.t 2) 2, none⟩,
    ⟨some 6, .ld true 2 (.t 5), none⟩,
    ⟨some 7, .mv (.t 1), none⟩,
    ⟨some 8, .call 213 [] [(.t 6), (.t 7)], none⟩,
    ⟨some 1, .mv (.t 8), none⟩] none)
  (.seq (.seq (.reg [1, 2, 10] [] [
      ⟨some 9, .mv (.t 1), none⟩,
      ⟨some 10, .bin .lss (.t 9) (.c (.v false (.int .i64 0))), none⟩] none)
    (.cond (.t 10) (.seq (.reg [4] [] [
        ⟨some 4, .mv (.c (.v false (.int .i64 (-1)))), none⟩] none)
      (.ret))
     (.skip)))
   (.seq (.reg [1] [(14, 1)] [
      ⟨some 11, .fad (.t 2) 4, none⟩,
      ⟨some 12, .ld false 1 (.t 11), none⟩,
      ⟨some 13, .mv (.t 1), none⟩,
      ⟨some 14, .call 212 [] [(.t 12), (.t 13)], none⟩,
      ⟨some 1, .mv (.t 14), none⟩] none)
    (.seq (.seq (.reg [1, 16] [] [
        ⟨some 15, .mv (.t 1), none⟩,
        ⟨some 16, .bin .lss (.t 15) (.c (.v false (.int .i64 0))), none⟩] none)
      (.cond (.t 16) (.seq (.reg [4] [] [
          ⟨some 4, .mv (.c (.v false (.int .i64 (-1)))), none⟩] none)
        (.ret))
       (.skip)))
     (.seq (.reg [1, 4] [] [
        ⟨some 17, .mv (.t 1), none⟩,
        ⟨some 4, .mv (.t 17), none⟩] none)
      (.ret))))))

def pf210 : PF := ⟨[.s 4], [], pb210⟩

-- loop.example/g00496/laws.szBufS
def pl211_0 : PC :=
.seq (.seq (.reg [0, 1, 5, 15] [] [
           ⟨some 12, .mv (.t 5), none⟩,
           ⟨some 13, .mv (.t 0), none⟩,
           ⟨some 14, .len (.t 13), none⟩,
           ⟨some 15, .bin .lss (.t 12) (.t 14), none⟩] none)
         (.cond (.t 15) (.skip)
          (.exit 0)))
        (.seq (.blk 1 (.seq (.reg [0, 1, 5] [(23, 1)] [
             ⟨some 18, .mv (.t 0), none⟩,
             ⟨some 19, .mv (.t 5), none⟩,
             ⟨some 20, .iad 5 (.t 18) (.t 19), none⟩,
             ⟨some 21, .ld true 5 (.t 20), none⟩,
             ⟨some 22, .mv (.t 1), none⟩,
             ⟨some 23, .call 210 [] [(.t 21), (.t 22)], none⟩,
             ⟨some 1, .mv (.t 23), none⟩] none)
           (.seq (.reg [0, 1, 5, 25] [] [
              ⟨some 24, .mv (.t 1), none⟩,
              ⟨some 25, .bin .lss (.t 24) (.c (.v false (.int .i64 0))), none⟩] none)
            (.cond (.t 25) (.seq (.reg [4] [] [
                ⟨some 4, .mv (.c (.v false (.int .i64 (-1)))), none⟩] none)
              (.ret))
             (.skip)))))
         (.reg [0, 1, 5] [] [
           ⟨some 16, .mv (.t 5), none⟩,
           ⟨some 17, .bin .add (.t 16) (.c (.v false (.int .i64 1))), none⟩,
           ⟨some 5, .mv (.t 17), none⟩] none))

def pb211 : PC :=
.seq (.reg [0, 1] [] [
   ⟨some 4, .mv (.c (.v false (.int .i64 0))), none⟩] none)
 (.seq (.reg [0, 1] [] [
    ⟨some 6, .mv (.t 1), none⟩,
    ⟨some 7, .mv (.t 0), none⟩,
    ⟨some 8, .len (.t 7), none⟩,
    ⟨some 9, .bin .sub (.t 6) (.t 8), none⟩,
    ⟨some 1, .mv (.t 9), none⟩] none)
  (.seq (.seq (.reg [0, 1, 11] [] [
      ⟨some 10, .mv (.t 1), none⟩,
      ⟨some 11, .bin .lss (.t 10) (.c (.v false (.int .i64 0))), none⟩] none)
    (.cond (.t 11) (.seq (.reg [4] [] [
        ⟨some 4, .mv (.c (.v false (.int .i64 (-1)))), none⟩] none)
      (.ret))
     (.skip)))
   (.seq (.seq (.reg [0, 1, 5] [] [
       ⟨some 5, .mv (.c (.v false (.int .i64 0))), none⟩] none)
     (.blk 0 (.loop pl211_0)))
    (.seq (.reg [1, 4] [] [
       ⟨some 26, .mv (.t 1), none⟩,
       ⟨some 4, .mv (.t 26), none⟩] none)
     (.ret)))))

def pf211 : PF := ⟨[.s 4], [], pb211⟩

-- loop.example/g00496/laws.szByteS
def pb212 : PC :=
.seq (.reg [0, 1] [] [
   ⟨some 4, .mv (.c (.v false (.int .i64 0))), none⟩] none)
 (.seq (.reg [1] [] [
    ⟨some 5, .mv (.t 1), none⟩,
    ⟨some 6, .mv (.t 0), none⟩,
    ⟨some 7, .len (.t 6), none⟩,
    ⟨some 8, .bin .sub (.t 5) (.t 7), none⟩,
    ⟨some 1, .mv (.t 8), none⟩] none)
  (.seq (.seq (.reg [1, 10] [] [
      ⟨some 9, .mv (.t 1), none⟩,
      ⟨some 10, .bin .lss (.t 9) (.c (.v false (.int .i64 0))), none⟩] none)
    (.cond (.t 10) (.seq (.reg [4] [] [
        ⟨some 4, .mv (.c (.v false (.int .i64 (-1)))), none⟩] none)
      (.ret))
     (.skip)))
   (.seq (.reg [4] [] [
      ⟨some 11, .mv (.t 1), none⟩,
      ⟨some 4, .mv (.t 11), none⟩] none)
    (.ret))))

def pf212 : PF := ⟨[.s 4], [], pb212⟩

-- loop.example/g00496/laws.szChunk
def pb213 : PC :=
.seq (.reg [1, 2] [] [
   ⟨some 2, .box 2 (.t 0), none⟩,
   ⟨some 4, .mv (.c (.v false (.int .i64 0))), none⟩] none)
 (.seq (.reg [1] [(8, 1)] [
    ⟨some 5, .fad (.t 2) 1, none⟩,
    ⟨some 6, .ld false 1 (.t 5), none⟩,
    ⟨some 7, .mv (.t 1), none⟩,
    ⟨some 8, .call 228 [] [(.t 6), (.t 7)], none⟩,
    ⟨some 1, .mv (.t 8), none⟩] none)
  (.seq (.seq (.reg [1, 10] [] [
      ⟨some 9, .mv (.t 1), none⟩,
      ⟨some 10, .bin .lss (.t 9) (.c (.v false (.int .i64 0))), none⟩] none)
    (.cond (.t 10) (.seq (.reg [4] [] [
        ⟨some 4, .mv (.c (.v false (.int .i64 (-1)))), none⟩] none)
      (.ret))
     (.skip)))
   (.seq (.reg [1, 4] [] [
      ⟨some 11, .mv (.t 1), none⟩,
      ⟨some 4, .mv (.t 11), none⟩] none)
    (.ret))))

def pf213 : PF := ⟨[.s 4], [], pb213⟩

-- loop.example/g00496/laws.szSlot
def pb227 : PC :=
.seq (.reg [1, 2] [] [
   ⟨some 2, .box 2 (.t 0), none⟩,
   ⟨some 4, .mv (.c (.v false (.int .i64 0))), none⟩] none)
 (.seq (.reg [1] [(8, 1)] [
    ⟨some 5, .fad (.t 2) 1, none⟩,
    ⟨some 6, .ld false 1 (.t 5), none⟩,
    ⟨some 7, .mv (.t 1), none⟩,
    ⟨some 8, .call 232 [] [(.t 6), (.t 7)], none⟩,
    ⟨some 1, .mv (.t 8), none⟩] none)
  (.seq (.seq (.reg [1, 10] [] [
      ⟨some 9, .mv (.t 1), none⟩,
      ⟨some 10, .bin .lss (.t 9) (.c (.v false (.int .i64 0))), none⟩] none)
    (.cond (.t 10) (.seq (.reg [4] [] [
        ⟨some 4, .mv (.c (.v false (.int .i64 (-1)))), none⟩] none)
      (.ret))
     (.skip)))
   (.seq (.reg [1, 4] [] [
      ⟨some 11, .mv (.t 1), none⟩,
      ⟨some 4, .mv (.t 11), none⟩] none)
    (.ret))))

def pf227 : PF := ⟨[.s 4], [], pb227⟩

-- loop.example/g00496/laws.szSlotS
def pl228_0 : PC :=
.seq (.seq (.reg [0, 1, 5, 15] [] [
           ⟨some 12, .mv (.t 5), none⟩,
           ⟨some 13, .mv (.t 0), none⟩,
           ⟨some 14, .len (.t 13), none⟩,
           ⟨some 15, .bin .lss (.t 12) (.t 14), none⟩] none)
         (.cond (.t 15) (.skip)
          (.exit 0)))
        (.seq (.blk 1 (.seq (.reg [0, 1, 5] [(23, 1)] [
             ⟨some 18, .mv (.t 0), none⟩,
             ⟨some 19, .mv (.t 5), none⟩,
             ⟨some 20, .iad 2 (.t 18) (.t 19), none⟩,
             ⟨some 21, .ld true 2 (.t 20), none⟩,
             ⟨some 22, .mv (.t 1), none⟩,
             ⟨some 23, .call 227 [] [(.t 21), (.t 22)], none⟩,
             ⟨some 1, .mv (.t 23), none⟩] none)
           (.seq (.reg [0, 1, 5, 25] [] [
              ⟨some 24, .mv (.t 1), none⟩,
              ⟨some 25, .bin .lss (.t 24) (.c (.v false (.int .i64 0))), none⟩] none)
            (.cond (.t 25) (.seq (.reg [4] [] [
                ⟨some 4, .mv (.c (.v false (.int .i64 (-1)))), none⟩] none)
              (.ret))
             (.skip)))))
         (.reg [0, 1, 5] [] [
           ⟨some 16, .mv (.t 5), none⟩,
           ⟨some 17, .bin .add (.t 16) (.c (.v false (.int .i64 1))), none⟩,
           ⟨some 5, .mv (.t 17), none⟩] none))

def pb228 : PC :=
.seq (.reg [0, 1] [] [
   ⟨some 4, .mv (.c (.v false (.int .i64 0))), none⟩] none)
 (.seq (.reg [0, 1] [] [
    ⟨some 6, .mv (.t 1), none⟩,
    ⟨some 7, .mv (.t 0), none⟩,
    ⟨some 8, .len (.t 7), none⟩,
    ⟨some 9, .bin .sub (.t 6) (.t 8), none⟩,
    ⟨some 1, .mv (.t 9), none⟩] none)
  (.seq (.seq (.reg [0, 1, 11] [] [
      ⟨some 10, .mv (.t 1), none⟩,
      ⟨some 11, .bin .lss (.t 10) (.c (.v false (.int .i64 0))), none⟩] none)
    (.cond (.t 11) (.seq (.reg [4] [] [
        ⟨some 4, .mv (.c (.v false (.int .i64 (-1)))), none⟩] none)
      (.ret))
     (.skip)))
   (.seq (.seq (.reg [0, 1, 5] [] [
       ⟨some 5, .mv (.c (.v false (.int .i64 0))), none⟩] none)
     (.blk 0 (.loop pl228_0)))
    (.seq (.reg [1, 4] [] [
       ⟨some 26, .mv (.t 1), none⟩,
       ⟨some 4, .mv (.t 26), none⟩] none)
     (.ret)))))

def pf228 : PF := ⟨[.s 4], [], pb228⟩

-- loop.example/g00496/laws.szVal
def pb231 : PC :=
.seq (.reg [1, 2] [] [
   ⟨some 2, .box 3 (.t 0), none⟩,
   ⟨some 4, .mv (.c (.v false (.int .i64 0))), none⟩] none)
 (.seq (.reg [1] [] [
    ⟨some 5, .mv (.t 1), none⟩,
    ⟨some 6, .fad (.t 2) 2, none⟩,
    ⟨some 7, .ld false 1 (.t 6), none⟩,
    ⟨some 8, .lens (.t 7), none⟩,
    ⟨some 9, .bin .sub (.t 5) (.t 8), none⟩,
    ⟨some 1, .mv (.t 9), none⟩] none)
  (.seq (.seq (.reg [1, 11] [] [
      ⟨some 10, .mv (.t 1), none⟩,
      ⟨some 11, .bin .lss (.t 10) (.c (.v false (.int .i64 0))), none⟩] none)
    (.cond (.t 11) (.seq (.reg [4] [] [
        ⟨some 4, .mv (.c (.v false (.int .i64 (-1)))), none⟩] none)
      (.ret))
     (.skip)))
   (.seq (.reg [4] [] [
      ⟨some 12, .mv (.t 1), none⟩,
      ⟨some 4, .mv (.t 12), none⟩] none)
    (.ret))))

def pf231 : PF := ⟨[.s 4], [], pb231⟩

-- loop.example/g00496/laws.szValS
def pl232_0 : PC :=
.seq (.seq (.reg [0, 1, 5, 15] [] [
           ⟨some 12, .mv (.t 5), none⟩,
           ⟨some 13, .mv (.t 0), none⟩,
           ⟨some 14, .len (.t 13), none⟩,
           ⟨some 15, .bin .lss (.t 12) (.t 14), none⟩] none)
         (.cond (.t 15) (.skip)
          (.exit 0)))
        (.seq (.blk 1 (.seq (.reg [0, 1, 5] [(23, 1)] [
             ⟨some 18, .mv (.t 0), none⟩,
             ⟨some 19, .mv (.t 5), none⟩,
             ⟨some 20, .iad 3 (.t 18) (.t 19), none⟩,
             ⟨some 21, .ld true 3 (.t 20), none⟩,
             ⟨some 22, .mv (.t 1), none⟩,
             ⟨some 23, .call 231 [] [(.t 21), (.t 22)], none⟩,
             ⟨some 1, .mv (.t 23), none⟩] none)
           (.seq (.reg [0, 1, 5, 25] [] [
              ⟨some 24, .mv (.t 1), none⟩,
              ⟨some 25, .bin .lss (.t 24) (.c (.v false (.int .i64 0))), none⟩] none)
            (.cond (.t 25) (.seq (.reg [4] [] [
                ⟨some 4, .mv (.c (.v false (.int .i64 (-1)))), none⟩] none)
              (.ret))
             (.skip)))))
         (.reg [0, 1, 5] [] [
           ⟨some 16, .mv (.t 5), none⟩,
           ⟨some 17, .bin .add (.t 16) (.c (.v false (.int .i64 1))), none⟩,
           ⟨some 5, .mv (.t 17), none⟩] none))

def pb232 : PC :=
.seq (.reg [0, 1] [] [
   ⟨some 4, .mv (.c (.v false (.int .i64 0))), none⟩] none)
 (.seq (.reg [0, 1] [] [
    ⟨some 6, .mv (.t 1), none⟩,
    ⟨some 7, .mv (.t 0), none⟩,
    ⟨some 8, .len (.t 7), none⟩,
    ⟨some 9, .bin .sub (.t 6) (.t 8), none⟩,
    ⟨some 1, .mv (.t 9), none⟩] none)
  (.seq (.seq (.reg [0, 1, 11] [] [
      ⟨some 10, .mv (.t 1), none⟩,
      ⟨some 11, .bin .lss (.t 10) (.c (.v false (.int .i64 0))), none⟩] none)
    (.cond (.t 11) (.seq (.reg [4] [] [
        ⟨some 4, .mv (.c (.v false (.int .i64 (-1)))), none⟩] none)
      (.ret))
     (.skip)))
   (.seq (.seq (.reg [0, 1, 5] [] [
       ⟨some 5, .mv (.c (.v false (.int .i64 0))), none⟩] none)
     (.blk 0 (.loop pl232_0)))
    (.seq (.reg [1, 4] [] [
       ⟨some 26, .mv (.t 1), none⟩,
       ⟨some 4, .mv (.t 26), none⟩] none)
     (.ret)))))

def pf232 : PF := ⟨[.s 4], [], pb232⟩

-- loop.example/g00496/laws.toBuf
def pb234 : PC :=
.seq (.reg [1, 2] [] [
   ⟨some 1, .box 5 (.t 0), none⟩,
   ⟨some 2, .alloc [(.v false (.int .i64 0)), (.v false (.int .i64 0)), (.v false (.int .i64 0)), (.nl 2), (.nl 1)], none⟩] none)
 (.seq (.reg [1, 2, 3] [] [
    ⟨some 3, .alloc [(.v false (.int .i64 0)), (.v false (.int .i64 0)), (.v false (.int .i64 0)), (.nl 2), (.nl 1)], none⟩] none)
  (.seq (.reg [1, 2, 3] [] [
     ⟨some 4, .fad (.t 1) 0, none⟩,
     ⟨some 5, .ld false 1 (.t 4), none⟩,
     ⟨some 6, .fad (.t 3) 0, none⟩,
     ⟨none, .st 1 (.t 6) (.t 5), none⟩] none)
   (.seq (.reg [1, 2, 3] [] [
      ⟨some 7, .fad (.t 1) 1, none⟩,
      ⟨some 8, .ld false 1 (.t 7), none⟩,
      ⟨some 9, .fad (.t 3) 1, none⟩,
      ⟨none, .st 1 (.t 9) (.t 8), none⟩] none)
    (.seq (.reg [1, 2, 3] [] [
       ⟨some 10, .fad (.t 1) 2, none⟩,
       ⟨some 11, .ld true 2 (.t 10), none⟩,
       ⟨some 12, .call 237 [] [(.t 11)], none⟩,
       ⟨some 13, .fad (.t 3) 2, none⟩,
       ⟨none, .st 2 (.t 13) (.t 12), none⟩] none)
     (.seq (.reg [2, 3] [] [
        ⟨some 14, .fad (.t 1) 4, none⟩,
        ⟨some 15, .ld false 1 (.t 14), none⟩,
        ⟨some 16, .call 236 [] [(.t 15)], none⟩,
        ⟨some 17, .fad (.t 3) 4, none⟩,
        ⟨none, .st 1 (.t 17) (.t 16), none⟩] none)
      (.seq (.reg [2] [] [
         ⟨some 18, .ld true 5 (.t 3), none⟩,
         ⟨none, .st 5 (.t 2) (.t 18), none⟩] none)
       (.ret)))))))

def pf234 : PF := ⟨[.b 2 5 true], [], pb234⟩

-- loop.example/g00496/laws.toBufS
def pl235_0 : PC :=
.seq (.seq (.reg [0, 3, 4, 11] [] [
          ⟨some 8, .mv (.t 4), none⟩,
          ⟨some 9, .mv (.t 0), none⟩,
          ⟨some 10, .len (.t 9), none⟩,
          ⟨some 11, .bin .lss (.t 8) (.t 10), none⟩] none)
        (.cond (.t 11) (.skip)
         (.exit 0)))
       (.seq (.blk 1 (.reg [0, 3, 4] [] [
           ⟨some 14, .mv (.t 3), none⟩,
           ⟨some 15, .mv (.t 4), none⟩,
           ⟨some 16, .mv (.t 0), none⟩,
           ⟨some 17, .mv (.t 4), none⟩,
           ⟨some 18, .iad 5 (.t 16) (.t 17), none⟩,
           ⟨some 19, .ld true 5 (.t 18), none⟩,
           ⟨some 20, .call 234 [] [(.t 19)], none⟩,
           ⟨some 21, .iad 5 (.t 14) (.t 15), none⟩,
           ⟨none, .st 5 (.t 21) (.t 20), none⟩] none))
        (.reg [0, 3, 4] [] [
          ⟨some 12, .mv (.t 4), none⟩,
          ⟨some 13, .bin .add (.t 12) (.c (.v false (.int .i64 1))), none⟩,
          ⟨some 4, .mv (.t 13), none⟩] none))

def pb235 : PC :=
.seq (.reg [0] [] [
   ⟨some 2, .mv (.c (.nl 5)), none⟩] none)
 (.seq (.reg [0, 3] [(7, 3)] [
    ⟨some 5, .mv (.t 0), none⟩,
    ⟨some 6, .len (.t 5), none⟩,
    ⟨some 7, .mks 5 72 [.int .i64 0, .int .i64 0, .int .i64 0, .sl 2 [], .sl 1 []] (.t 6), none⟩,
    ⟨some 3, .mv (.t 7), none⟩] none)
  (.seq (.seq (.reg [0, 3, 4] [] [
      ⟨some 4, .mv (.c (.v false (.int .i64 0))), none⟩] none)
    (.blk 0 (.loop pl235_0)))
   (.seq (.reg [2, 3] [] [
      ⟨some 22, .mv (.t 3), none⟩,
      ⟨some 2, .mv (.t 22), none⟩] none)
    (.ret))))

def pf235 : PF := ⟨[.s 2], [], pb235⟩

-- loop.example/g00496/laws.toByteS
def pl236_0 : PC :=
.seq (.seq (.reg [0, 3, 4, 11] [] [
          ⟨some 8, .mv (.t 4), none⟩,
          ⟨some 9, .mv (.t 0), none⟩,
          ⟨some 10, .len (.t 9), none⟩,
          ⟨some 11, .bin .lss (.t 8) (.t 10), none⟩] none)
        (.cond (.t 11) (.skip)
         (.exit 0)))
       (.seq (.blk 1 (.reg [0, 3, 4] [] [
           ⟨some 14, .mv (.t 3), none⟩,
           ⟨some 15, .mv (.t 4), none⟩,
           ⟨some 16, .mv (.t 0), none⟩,
           ⟨some 17, .mv (.t 4), none⟩,
           ⟨some 18, .iad 1 (.t 16) (.t 17), none⟩,
           ⟨some 19, .ld false 1 (.t 18), none⟩,
           ⟨some 20, .iad 1 (.t 14) (.t 15), none⟩,
           ⟨none, .st 1 (.t 20) (.t 19), none⟩] none))
        (.reg [0, 3, 4] [] [
          ⟨some 12, .mv (.t 4), none⟩,
          ⟨some 13, .bin .add (.t 12) (.c (.v false (.int .i64 1))), none⟩,
          ⟨some 4, .mv (.t 13), none⟩] none))

def pb236 : PC :=
.seq (.reg [0] [] [
   ⟨some 2, .mv (.c (.nl 1)), none⟩] none)
 (.seq (.reg [0, 3] [(7, 3)] [
    ⟨some 5, .mv (.t 0), none⟩,
    ⟨some 6, .len (.t 5), none⟩,
    ⟨some 7, .mks 1 1 [.int .u8 0] (.t 6), none⟩,
    ⟨some 3, .mv (.t 7), none⟩] none)
  (.seq (.seq (.reg [0, 3, 4] [] [
      ⟨some 4, .mv (.c (.v false (.int .i64 0))), none⟩] none)
    (.blk 0 (.loop pl236_0)))
   (.seq (.reg [2, 3] [] [
      ⟨some 21, .mv (.t 3), none⟩,
      ⟨some 2, .mv (.t 21), none⟩] none)
    (.ret))))

def pf236 : PF := ⟨[.s 2], [], pb236⟩

-- loop.example/g00496/laws.toChunk
def pb237 : PC :=
.seq (.reg [1, 2] [] [
   ⟨some 1, .box 2 (.t 0), none⟩,
   ⟨some 2, .alloc [(.v false (.int .i64 0)), (.nl 2)], none⟩] none)
 (.seq (.reg [1, 2, 3] [] [
    ⟨some 3, .alloc [(.v false (.int .i64 0)), (.nl 2)], none⟩] none)
  (.seq (.reg [1, 2, 3] [] [
     ⟨some 4, .fad (.t 1) 0, none⟩,
     ⟨some 5, .ld false 1 (.t 4), none⟩,
     ⟨some 6, .fad (.t 3) 0, none⟩,
     ⟨none, .st 1 (.t 6) (.t 5), none⟩] none)
   (.seq (.reg [2, 3] [] [
      ⟨some 7, .fad (.t 1) 1, none⟩,
      ⟨some 8, .ld false 1 (.t 7), none⟩,
      ⟨some 9, .call 254 [] [(.t 8)], none⟩,
      ⟨some 10, .fad (.t 3) 1, none⟩,
      ⟨none, .st 1 (.t 10) (.t 9), none⟩] none)
    (.seq (.reg [2] [] [
       ⟨some 11, .ld true 2 (.t 3), none⟩,
       ⟨none, .st 2 (.t 2) (.t 11), none⟩] none)
     (.ret)))))

def pf237 : PF := ⟨[.b 2 2 true], [], pb237⟩

-- loop.example/g00496/laws.toSlot
def pb253 : PC :=
.seq (.reg [1, 2] [] [
   ⟨some 1, .box 2 (.t 0), none⟩,
   ⟨some 2, .alloc [(.v false (.int .i64 0)), (.nl 3)], none⟩] none)
 (.seq (.reg [1, 2, 3] [] [
    ⟨some 3, .alloc [(.v false (.int .i64 0)), (.nl 3)], none⟩] none)
  (.seq (.reg [1, 2, 3] [] [
     ⟨some 4, .fad (.t 1) 0, none⟩,
     ⟨some 5, .ld false 1 (.t 4), none⟩,
     ⟨some 6, .fad (.t 3) 0, none⟩,
     ⟨none, .st 1 (.t 6) (.t 5), none⟩] none)
   (.seq (.reg [2, 3] [] [
      ⟨some 7, .fad (.t 1) 1, none⟩,
      ⟨some 8, .ld false 1 (.t 7), none⟩,
      ⟨some 9, .call 258 [] [(.t 8)], none⟩,
      ⟨some 10, .fad (.t 3) 1, none⟩,
      ⟨none, .st 1 (.t 10) (.t 9), none⟩] none)
    (.seq (.reg [2] [] [
       ⟨some 11, .ld true 2 (.t 3), none⟩,
       ⟨none, .st 2 (.t 2) (.t 11), none⟩] none)
     (.ret)))))

def pf253 : PF := ⟨[.b 2 2 true], [], pb253⟩

-- loop.example/g00496/laws.toSlotS
def pl254_0 : PC :=
.seq (.seq (.reg [0, 3, 4, 11] [] [
          ⟨some 8, .mv (.t 4), none⟩,
          ⟨some 9, .mv (.t 0), none⟩,
          ⟨some 10, .len (.t 9), none⟩,
          ⟨some 11, .bin .lss (.t 8) (.t 10), none⟩] none)
        (.cond (.t 11) (.skip)
         (.exit 0)))
       (.seq (.blk 1 (.reg [0, 3, 4] [] [
           ⟨some 14, .mv (.t 3), none⟩,
           ⟨some 15, .mv (.t 4), none⟩,
           ⟨some 16, .mv (.t 0), none⟩,
           ⟨some 17, .mv (.t 4), none⟩,
           ⟨some 18, .iad 2 (.t 16) (.t 17), none⟩,
           ⟨some 19, .ld true 2 (.t 18), none⟩,
           ⟨some 20, .call 253 [] [(.t 19)], none⟩,
           ⟨some 21, .iad 2 (.t 14) (.t 15), none⟩,
           ⟨none, .st 2 (.t 21) (.t 20), none⟩] none))
        (.reg [0, 3, 4] [] [
          ⟨some 12, .mv (.t 4), none⟩,
          ⟨some 13, .bin .add (.t 12) (.c (.v false (.int .i64 1))), none⟩,
          ⟨some 4, .mv (.t 13), none⟩] none))

def pb254 : PC :=
.seq (.reg [0] [] [
   ⟨some 2, .mv (.c (.nl 2)), none⟩] none)
 (.seq (.reg [0, 3] [(7, 3)] [
    ⟨some 5, .mv (.t 0), none⟩,
    ⟨some 6, .len (.t 5), none⟩,
    ⟨some 7, .mks 2 32 [.int .i64 0, .sl 3 []] (.t 6), none⟩,
    ⟨some 3, .mv (.t 7), none⟩] none)
  (.seq (.seq (.reg [0, 3, 4] [] [
      ⟨some 4, .mv (.c (.v false (.int .i64 0))), none⟩] none)
    (.blk 0 (.loop pl254_0)))
   (.seq (.reg [2, 3] [] [
      ⟨some 22, .mv (.t 3), none⟩,
      ⟨some 2, .mv (.t 22), none⟩] none)
    (.ret))))

def pf254 : PF := ⟨[.s 2], [], pb254⟩

-- loop.example/g00496/laws.toVal
def pb257 : PC :=
.seq (.reg [1, 2] [] [
   ⟨some 1, .box 3 (.t 0), none⟩,
   ⟨some 2, .alloc [(.v false (.int .i64 0)), (.v false (.int .i64 0)), (.v false (.str ⟨#[]⟩))], none⟩] none)
 (.seq (.reg [1, 2, 3] [] [
    ⟨some 3, .alloc [(.v false (.int .i64 0)), (.v false (.int .i64 0)), (.v false (.str ⟨#[]⟩))], none⟩] none)
  (.seq (.reg [1, 2, 3] [] [
     ⟨some 4, .fad (.t 1) 0, none⟩,
     ⟨some 5, .ld false 1 (.t 4), none⟩,
     ⟨some 6, .fad (.t 3) 0, none⟩,
     ⟨none, .st 1 (.t 6) (.t 5), none⟩] none)
   (.seq (.reg [1, 2, 3] [] [
      ⟨some 7, .fad (.t 1) 1, none⟩,
      ⟨some 8, .ld false 1 (.t 7), none⟩,
      ⟨some 9, .fad (.t 3) 1, none⟩,
      ⟨none, .st 1 (.t 9) (.t 8), none⟩] none)
    (.seq (.reg [2, 3] [] [
       ⟨some 10, .fad (.t 1) 2, none⟩,
       ⟨some 11, .ld false 1 (.t 10), none⟩,
       ⟨some 12, .fad (.t 3) 2, none⟩,
       ⟨none, .st 1 (.t 12) (.t 11), none⟩] none)
     (.seq (.reg [2] [] [
        ⟨some 13, .ld true 3 (.t 3), none⟩,
        ⟨none, .st 3 (.t 2) (.t 13), none⟩] none)
      (.ret))))))

def pf257 : PF := ⟨[.b 2 3 true], [], pb257⟩

-- loop.example/g00496/laws.toValS
def pl258_0 : PC :=
.seq (.seq (.reg [0, 3, 4, 11] [] [
          ⟨some 8, .mv (.t 4), none⟩,
          ⟨some 9, .mv (.t 0), none⟩,
          ⟨some 10, .len (.t 9), none⟩,
          ⟨some 11, .bin .lss (.t 8) (.t 10), none⟩] none)
        (.cond (.t 11) (.skip)
         (.exit 0)))
       (.seq (.blk 1 (.reg [0, 3, 4] [] [
           ⟨some 14, .mv (.t 3), none⟩,
           ⟨some 15, .mv (.t 4), none⟩,
           ⟨some 16, .mv (.t 0), none⟩,
           ⟨some 17, .mv (.t 4), none⟩,
           ⟨some 18, .iad 3 (.t 16) (.t 17), none⟩,
           ⟨some 19, .ld true 3 (.t 18), none⟩,
           ⟨some 20, .call 257 [] [(.t 19)], none⟩,
           ⟨some 21, .iad 3 (.t 14) (.t 15), none⟩,
           ⟨none, .st 3 (.t 21) (.t 20), none⟩] none))
        (.reg [0, 3, 4] [] [
          ⟨some 12, .mv (.t 4), none⟩,
          ⟨some 13, .bin .add (.t 12) (.c (.v false (.int .i64 1))), none⟩,
          ⟨some 4, .mv (.t 13), none⟩] none))

def pb258 : PC :=
.seq (.reg [0] [] [
   ⟨some 2, .mv (.c (.nl 3)), none⟩] none)
 (.seq (.reg [0, 3] [(7, 3)] [
    ⟨some 5, .mv (.t 0), none⟩,
    ⟨some 6, .len (.t 5), none⟩,
    ⟨some 7, .mks 3 32 [.int .i64 0, .int .i64 0, .str ⟨#[]⟩] (.t 6), none⟩,
    ⟨some 3, .mv (.t 7), none⟩] none)
  (.seq (.seq (.reg [0, 3, 4] [] [
      ⟨some 4, .mv (.c (.v false (.int .i64 0))), none⟩] none)
    (.blk 0 (.loop pl258_0)))
   (.seq (.reg [2, 3] [] [
      ⟨some 22, .mv (.t 3), none⟩,
      ⟨some 2, .mv (.t 22), none⟩] none)
    (.ret))))

def pf258 : PF := ⟨[.s 2], [], pb258⟩

-- loop.example/g00496/spec.ChunkNew
def pl265_0 : PC :=
.seq (.seq (.reg [0, 2, 3, 4, 11] [] [
           ⟨some 9, .mv (.t 4), none⟩,
           ⟨some 10, .mv (.t 0), none⟩,
           ⟨some 11, .bin .lss (.t 9) (.t 10), none⟩] none)
         (.cond (.t 11) (.skip)
          (.exit 0)))
        (.seq (.blk 1 (.reg [0, 2, 3, 4] [] [
            ⟨some 14, .fad (.t 3) 1, none⟩,
            ⟨some 15, .ld false 1 (.t 14), none⟩,
            ⟨some 16, .build [(.v false (.int .i64 0)), (.nl 3)] [], none⟩,
            ⟨some 17, .bsl 2 [.int .i64 0, .sl 3 []] 1 [(0, (.t 16))], none⟩,
            ⟨some 18, .app 2 32 (.t 15) (.t 17), none⟩,
            ⟨some 19, .fad (.t 3) 1, none⟩,
            ⟨none, .st 1 (.t 19) (.t 18), none⟩] none))
         (.reg [0, 2, 3, 4] [] [
           ⟨some 12, .mv (.t 4), none⟩,
           ⟨some 13, .bin .add (.t 12) (.c (.v false (.int .i64 1))), none⟩,
           ⟨some 4, .mv (.t 13), none⟩] none))

def pb265 : PC :=
.seq (.reg [0, 2] [] [
   ⟨some 2, .alloc [(.v false (.int .i64 0)), (.nl 2)], none⟩] none)
 (.seq (.seq (.reg [0, 2, 7] [] [
     ⟨some 5, .mv (.t 0), none⟩,
     ⟨some 6, .call 377 [] [(.t 5), (.c (.v false (.int .i64 1))), (.c (.v false (.int .i64 4)))], none⟩,
     ⟨some 7, .un .not (.t 6), none⟩] none)
   (.cond (.t 7) (.reg [0, 2] [] [
      ⟨some 0, .mv (.c (.v false (.int .i64 1))), none⟩] none)
    (.skip)))
  (.seq (.reg [0, 2, 3] [] [
     ⟨some 8, .build [(.v false (.int .i64 0)), (.nl 2)] [], none⟩,
     ⟨some 3, .alloc [(.v false (.int .i64 0)), (.nl 2)], none⟩,
     ⟨none, .st 2 (.t 3) (.t 8), none⟩] none)
   (.seq (.seq (.reg [0, 2, 3, 4] [] [
       ⟨some 4, .mv (.c (.v false (.int .i64 0))), none⟩] none)
     (.blk 0 (.loop pl265_0)))
    (.seq (.reg [2] [] [
       ⟨some 20, .ld true 2 (.t 3), none⟩,
       ⟨none, .st 2 (.t 2) (.t 20), none⟩] none)
     (.ret)))))

def pf265 : PF := ⟨[.b 2 2 true], [], pb265⟩

-- loop.example/g00496/spec.Take
def pl338_0 : PC :=
.seq (.seq (.reg [0, 1, 2, 8, 9, 19] [(18, 19)] [
          ⟨some 12, .mv (.t 9), none⟩,
          ⟨some 13, .mv (.t 0), none⟩,
          ⟨some 14, .len (.t 13), none⟩,
          ⟨some 15, .bin .lss (.t 12) (.t 14), none⟩,
          ⟨some 16, .mv (.t 15), none⟩,
          ⟨some 17, .mv (.t 1), some (16, true)⟩,
          ⟨some 18, .call 377 [] [(.t 17), (.c (.v false (.int .i64 1))), (.c (.v false (.int .i64 2)))], some (16, true)⟩,
          ⟨some 19, .pick (.t 16) (.t 18) (.c (.v false (.bool false))), none⟩] none)
        (.cond (.t 19) (.skip)
         (.exit 0)))
       (.seq (.blk 1 (.seq (.seq (.reg [0, 1, 2, 8, 9, 27] [] [
             ⟨some 22, .mv (.t 0), none⟩,
             ⟨some 23, .mv (.t 9), none⟩,
             ⟨some 24, .iad 5 (.t 22) (.t 23), none⟩,
             ⟨some 25, .fad (.t 24) 1, none⟩,
             ⟨some 26, .ld false 1 (.t 25), none⟩,
             ⟨some 27, .bin .neq (.t 26) (.c (.v false (.int .i64 0))), none⟩] none)
           (.cond (.t 27) (.exit 1)
            (.skip)))
          (.seq (.reg [1, 2, 8, 9] [] [
             ⟨some 28, .mv (.t 8), none⟩,
             ⟨some 29, .mv (.t 9), none⟩,
             ⟨some 30, .mv (.t 0), none⟩,
             ⟨some 31, .mv (.t 9), none⟩,
             ⟨some 32, .iad 5 (.t 30) (.t 31), none⟩,
             ⟨some 33, .fad (.t 32) 0, none⟩,
             ⟨some 34, .ld false 1 (.t 33), none⟩,
             ⟨some 35, .mv (.t 1), none⟩,
             ⟨some 36, .build [(.v false (.int .i64 0)), (.v false (.int .i64 0)), (.v false (.int .i64 0)), (.nl 2), (.nl 1)] [(0, 1, (.t 34)), (1, 1, (.t 35))], none⟩,
             ⟨some 37, .iad 5 (.t 28) (.t 29), none⟩,
             ⟨none, .st 5 (.t 37) (.t 36), none⟩] none)
           (.seq (.seq (.reg [2, 8, 9, 39] [] [
               ⟨some 38, .mv (.t 1), none⟩,
               ⟨some 39, .bin .eql (.t 38) (.c (.v false (.int .i64 1))), none⟩] none)
             (.cond (.t 39) (.reg [8, 9] [] [
                ⟨some 40, .mv (.t 8), none⟩,
                ⟨some 41, .mv (.t 9), none⟩,
                ⟨some 42, .mv (.t 2), none⟩,
                ⟨some 43, .call 265 [] [(.t 42)], none⟩,
                ⟨some 44, .iad 5 (.t 40) (.t 41), none⟩,
                ⟨some 45, .fad (.t 44) 2, none⟩,
                ⟨none, .st 2 (.t 45) (.t 43), none⟩] none)
              (.reg [8, 9] [] [
                ⟨some 46, .mv (.t 8), none⟩,
                ⟨some 47, .mv (.t 9), none⟩,
                ⟨some 48, .bsl 1 [.int .u8 0] 1 [(0, (.c (.v false (.int .u8 0))))], none⟩,
                ⟨some 49, .iad 5 (.t 46) (.t 47), none⟩,
                ⟨some 50, .fad (.t 49) 4, none⟩,
                ⟨none, .st 1 (.t 50) (.t 48), none⟩] none)))
            (.seq (.reg [6, 7, 8] [] [
               ⟨some 51, .mv (.t 8), none⟩,
               ⟨some 52, .mv (.t 9), none⟩,
               ⟨some 6, .mv (.t 51), none⟩,
               ⟨some 7, .mv (.t 52), none⟩] none)
             (.ret))))))
        (.reg [0, 1, 2, 8, 9] [] [
          ⟨some 20, .mv (.t 9), none⟩,
          ⟨some 21, .bin .add (.t 20) (.c (.v false (.int .i64 1))), none⟩,
          ⟨some 9, .mv (.t 21), none⟩] none))

def pb338 : PC :=
.seq (.reg [0, 1, 2] [] [
   ⟨some 6, .mv (.c (.nl 5)), none⟩,
   ⟨some 7, .mv (.c (.v false (.int .i64 0))), none⟩] none)
 (.seq (.reg [0, 1, 2, 8] [(11, 8)] [
    ⟨some 10, .mv (.t 0), none⟩,
    ⟨some 11, .call 362 [] [(.t 10)], none⟩,
    ⟨some 8, .mv (.t 11), none⟩] none)
  (.seq (.seq (.reg [0, 1, 2, 8, 9] [] [
      ⟨some 9, .mv (.c (.v false (.int .i64 0))), none⟩] none)
    (.blk 0 (.loop pl338_0)))
   (.seq (.reg [6, 7, 8] [] [
      ⟨some 53, .mv (.t 8), none⟩,
      ⟨some 6, .mv (.t 53), none⟩,
      ⟨some 7, .mv (.c (.v false (.int .i64 (-1)))), none⟩] none)
    (.ret))))

def pf338 : PF := ⟨[.s 6, .s 7], [], pb338⟩

-- loop.example/g00496/spec.l15Copy
def pl359_0 : PC :=
.seq (.seq (.reg [1, 2, 3, 4, 13] [] [
          ⟨some 9, .mv (.t 4), none⟩,
          ⟨some 10, .fad (.t 1) 1, none⟩,
          ⟨some 11, .ld false 1 (.t 10), none⟩,
          ⟨some 12, .len (.t 11), none⟩,
          ⟨some 13, .bin .lss (.t 9) (.t 12), none⟩] none)
        (.cond (.t 13) (.skip)
         (.exit 0)))
       (.seq (.blk 1 (.reg [1, 2, 3, 4] [] [
           ⟨some 16, .fad (.t 3) 1, none⟩,
           ⟨some 17, .ld false 1 (.t 16), none⟩,
           ⟨some 18, .fad (.t 1) 1, none⟩,
           ⟨some 19, .ld false 1 (.t 18), none⟩,
           ⟨some 20, .mv (.t 4), none⟩,
           ⟨some 21, .iad 2 (.t 19) (.t 20), none⟩,
           ⟨some 22, .fad (.t 21) 0, none⟩,
           ⟨some 23, .ld false 1 (.t 22), none⟩,
           ⟨some 24, .bsl 3 [] 0 [], none⟩,
           ⟨some 25, .fad (.t 1) 1, none⟩,
           ⟨some 26, .ld false 1 (.t 25), none⟩,
           ⟨some 27, .mv (.t 4), none⟩,
           ⟨some 28, .iad 2 (.t 26) (.t 27), none⟩,
           ⟨some 29, .fad (.t 28) 1, none⟩,
           ⟨some 30, .ld false 1 (.t 29), none⟩,
           ⟨some 31, .app 3 32 (.t 24) (.t 30), none⟩,
           ⟨some 32, .build [(.v false (.int .i64 0)), (.nl 3)] [(0, 1, (.t 23)), (1, 1, (.t 31))], none⟩,
           ⟨some 33, .bsl 2 [.int .i64 0, .sl 3 []] 1 [(0, (.t 32))], none⟩,
           ⟨some 34, .app 2 32 (.t 17) (.t 33), none⟩,
           ⟨some 35, .fad (.t 3) 1, none⟩,
           ⟨none, .st 1 (.t 35) (.t 34), none⟩] (some [(1, 8), (3, 8), (5, 8), (7, 8), (8, 10), (8, 12), (8, 14), (1, 15), (3, 15), (5, 15), (7, 15), (1, 17)])))
        (.reg [1, 2, 3, 4] [] [
          ⟨some 14, .mv (.t 4), none⟩,
          ⟨some 15, .bin .add (.t 14) (.c (.v false (.int .i64 1))), none⟩,
          ⟨some 4, .mv (.t 15), none⟩] none))

def pb359 : PC :=
.seq (.reg [1, 2] [] [
   ⟨some 1, .box 2 (.t 0), none⟩,
   ⟨some 2, .alloc [(.v false (.int .i64 0)), (.nl 2)], none⟩] none)
 (.seq (.reg [1, 2, 3] [] [
    ⟨some 5, .fad (.t 1) 0, none⟩,
    ⟨some 6, .ld false 1 (.t 5), none⟩,
    ⟨some 7, .bsl 2 [] 0 [], none⟩,
    ⟨some 8, .build [(.v false (.int .i64 0)), (.nl 2)] [(0, 1, (.t 6)), (1, 1, (.t 7))], none⟩,
    ⟨some 3, .alloc [(.v false (.int .i64 0)), (.nl 2)], none⟩,
    ⟨none, .st 2 (.t 3) (.t 8), none⟩] none)
  (.seq (.seq (.reg [1, 2, 3, 4] [] [
      ⟨some 4, .mv (.c (.v false (.int .i64 0))), none⟩] none)
    (.blk 0 (.loop pl359_0)))
   (.seq (.reg [2] [] [
      ⟨some 36, .ld true 2 (.t 3), none⟩,
      ⟨none, .st 2 (.t 2) (.t 36), none⟩] none)
    (.ret))))

def pf359 : PF := ⟨[.b 2 2 true], [], pb359⟩

-- loop.example/g00496/spec.l16All
def pl362_0 : PC :=
.seq (.seq (.reg [0, 3, 4, 10] [] [
          ⟨some 7, .mv (.t 4), none⟩,
          ⟨some 8, .mv (.t 0), none⟩,
          ⟨some 9, .len (.t 8), none⟩,
          ⟨some 10, .bin .lss (.t 7) (.t 9), none⟩] none)
        (.cond (.t 10) (.skip)
         (.exit 0)))
       (.seq (.blk 1 (.seq (.reg [0, 3, 4, 5] [] [
            ⟨some 13, .mv (.t 0), none⟩,
            ⟨some 14, .mv (.t 4), none⟩,
            ⟨some 15, .iad 5 (.t 13) (.t 14), none⟩,
            ⟨some 16, .ld true 5 (.t 15), none⟩,
            ⟨some 17, .call 363 [] [(.t 16)], none⟩,
            ⟨some 5, .alloc [(.v false (.int .i64 0)), (.v false (.int .i64 0)), (.v false (.int .i64 0)), (.nl 2), (.nl 1)], none⟩,
            ⟨none, .st 5 (.t 5) (.t 17), none⟩] none)
          (.reg [0, 3, 4] [(21, 3)] [
            ⟨some 18, .mv (.t 3), none⟩,
            ⟨some 19, .ld true 5 (.t 5), none⟩,
            ⟨some 20, .bsl 5 [.int .i64 0, .int .i64 0, .int .i64 0, .sl 2 [], .sl 1 []] 1 [(0, (.t 19))], none⟩,
            ⟨some 21, .app 5 72 (.t 18) (.t 20), none⟩,
            ⟨some 3, .mv (.t 21), none⟩] none)))
        (.reg [0, 3, 4] [] [
          ⟨some 11, .mv (.t 4), none⟩,
          ⟨some 12, .bin .add (.t 11) (.c (.v false (.int .i64 1))), none⟩,
          ⟨some 4, .mv (.t 12), none⟩] none))

def pb362 : PC :=
.seq (.reg [0] [] [
   ⟨some 2, .mv (.c (.nl 5)), none⟩] none)
 (.seq (.reg [0, 3] [(6, 3)] [
    ⟨some 6, .bsl 5 [] 0 [], none⟩,
    ⟨some 3, .mv (.t 6), none⟩] none)
  (.seq (.seq (.reg [0, 3, 4] [] [
      ⟨some 4, .mv (.c (.v false (.int .i64 0))), none⟩] none)
    (.blk 0 (.loop pl362_0)))
   (.seq (.reg [2, 3] [] [
      ⟨some 22, .mv (.t 3), none⟩,
      ⟨some 2, .mv (.t 22), none⟩] none)
    (.ret))))

def pf362 : PF := ⟨[.s 2], [], pb362⟩

-- loop.example/g00496/spec.l16Copy
def pb363 : PC :=
.seq (.reg [1, 2] [] [
   ⟨some 1, .box 5 (.t 0), none⟩,
   ⟨some 2, .alloc [(.v false (.int .i64 0)), (.v false (.int .i64 0)), (.v false (.int .i64 0)), (.nl 2), (.nl 1)], none⟩] none)
 (.seq (.reg [2] [] [
    ⟨some 3, .fad (.t 1) 0, none⟩,
    ⟨some 4, .ld false 1 (.t 3), none⟩,
    ⟨some 5, .fad (.t 1) 1, none⟩,
    ⟨some 6, .ld false 1 (.t 5), none⟩,
    ⟨some 7, .fad (.t 1) 2, none⟩,
    ⟨some 8, .ld true 2 (.t 7), none⟩,
    ⟨some 9, .call 359 [] [(.t 8)], none⟩,
    ⟨some 10, .bsl 1 [] 0 [], none⟩,
    ⟨some 11, .fad (.t 1) 4, none⟩,
    ⟨some 12, .ld false 1 (.t 11), none⟩,
    ⟨some 13, .app 1 1 (.t 10) (.t 12), none⟩,
    ⟨some 14, .build [(.v false (.int .i64 0)), (.v false (.int .i64 0)), (.v false (.int .i64 0)), (.nl 2), (.nl 1)] [(0, 1, (.t 4)), (1, 1, (.t 6)), (2, 2, (.t 9)), (4, 1, (.t 13))], none⟩,
    ⟨none, .st 5 (.t 2) (.t 14), none⟩] (some [(1, 6), (3, 6), (1, 7), (3, 7), (5, 7), (6, 7), (6, 9), (7, 9), (1, 10), (3, 10)]))
  (.ret))

def pf363 : PF := ⟨[.b 2 5 true], [], pb363⟩

-- loop.example/g00496/spec.l1In
def pb377 : PC :=
.seq (.reg [0, 1, 2] [] [
   ⟨some 6, .mv (.c (.v false (.bool false))), none⟩] none)
 (.seq (.reg [6] [] [
    ⟨some 7, .mv (.t 0), none⟩,
    ⟨some 8, .mv (.t 1), none⟩,
    ⟨some 9, .bin .geq (.t 7) (.t 8), none⟩,
    ⟨some 10, .mv (.t 9), none⟩,
    ⟨some 11, .mv (.t 0), some (10, true)⟩,
    ⟨some 12, .mv (.t 2), some (10, true)⟩,
    ⟨some 13, .bin .leq (.t 11) (.t 12), some (10, true)⟩,
    ⟨some 14, .pick (.t 10) (.t 13) (.c (.v false (.bool false))), none⟩,
    ⟨some 6, .mv (.t 14), none⟩] none)
  (.ret))

def pf377 : PF := ⟨[.s 6], [], pb377⟩

end Go.Proofs.Ytkgibccknlbiaaa.OM
