/- The texts of the functions, as the own machine runs them. -/
import Derived.Test.YtkgibccknlbiaaaOMDef
set_option linter.all false
namespace Go.Proofs.Ytkgibccknlbiaaa.OM
set_option maxRecDepth 100000

-- loop.example/g00496/impl.Came
def pb7 : PC :=
.seq (.reg [0, 1] [] [
   ⟨some 4, .mv (.c (.v false (.bool false))), none⟩] none)
 (.seq (.reg [4] [] [
    ⟨some 5, .mv (.t 0), none⟩,
    ⟨some 6, .bin .geq (.t 5) (.c (.v false (.int .i64 1))), none⟩,
    ⟨some 7, .mv (.t 6), none⟩,
    ⟨some 8, .mv (.t 0), some (7, true)⟩,
    ⟨some 9, .mv (.t 1), some (7, true)⟩,
    ⟨some 10, .bin .leq (.t 8) (.t 9), some (7, true)⟩,
    ⟨some 11, .pick (.t 7) (.t 10) (.c (.v false (.bool false))), none⟩,
    ⟨some 4, .mv (.t 11), none⟩] none)
  (.ret))

def pf7 : PF := ⟨[.s 4], [], pb7⟩

-- loop.example/g00496/impl.CellOk
def pb8 : PC :=
.seq (.reg [0] [] [
   ⟨some 2, .mv (.c (.v false (.bool false))), none⟩] none)
 (.seq (.reg [2] [] [
    ⟨some 3, .mv (.t 0), none⟩,
    ⟨some 4, .bin .geq (.t 3) (.c (.v false (.int .i64 (-1)))), none⟩,
    ⟨some 2, .mv (.t 4), none⟩] none)
  (.ret))

def pf8 : PF := ⟨[.s 2], [], pb8⟩

-- loop.example/g00496/impl.ChunkNew
def pb9 : PC :=
.seq (.reg [0, 2] [] [
   ⟨some 2, .alloc [(.v false (.int .i64 0)), (.nl 2)], none⟩] none)
 (.seq (.seq (.reg [0, 2, 5] [] [
     ⟨some 3, .mv (.t 0), none⟩,
     ⟨some 4, .call 87 [] [(.t 3), (.c (.v false (.int .i64 1))), (.c (.v false (.int .i64 4)))], none⟩,
     ⟨some 5, .un .not (.t 4), none⟩] none)
   (.cond (.t 5) (.reg [0, 2] [] [
      ⟨some 0, .mv (.c (.v false (.int .i64 1))), none⟩] none)
    (.skip)))
  (.seq (.reg [2] [] [
     ⟨some 6, .mv (.t 0), none⟩,
     ⟨some 7, .mks 2 32 [.int .i64 0, .sl 3 []] (.t 6), none⟩,
     ⟨some 8, .build [(.v false (.int .i64 0)), (.nl 2)] [(1, 1, (.t 7))], none⟩,
     ⟨none, .st 2 (.t 2) (.t 8), none⟩] none)
   (.ret)))

def pf9 : PF := ⟨[.b 2 2 true], [], pb9⟩

-- loop.example/g00496/impl.ChunkOk
def pl10_0 : PC :=
.seq (.reg [0, 3, 22, 23, 24, 25] [] [
         ⟨some 25, .bin .lss (.t 24) (.t 23), none⟩] none)
       (.seq (.cond (.t 25) (.skip)
         (.exit 0))
        (.seq (.blk 1 (.seq (.reg [0, 3, 5, 6, 22, 23, 24] [] [
             ⟨some 26, .mv (.t 24), none⟩,
             ⟨some 27, .iad 2 (.t 22) (.t 24), none⟩,
             ⟨some 28, .ld true 2 (.t 27), none⟩,
             ⟨some 6, .alloc [(.v false (.int .i64 0)), (.nl 3)], none⟩,
             ⟨some 5, .mv (.t 26), none⟩,
             ⟨none, .st 2 (.t 6) (.t 28), none⟩] none)
           (.seq (.seq (.reg [0, 3, 6, 22, 23, 24, 43] [] [
               ⟨some 29, .fad (.t 6) 0, none⟩,
               ⟨some 30, .ld false 1 (.t 29), none⟩,
               ⟨some 31, .call 8 [] [(.t 30)], none⟩,
               ⟨some 32, .un .not (.t 31), none⟩,
               ⟨some 33, .mv (.t 32), none⟩,
               ⟨some 34, .mv (.t 5), some (33, false)⟩,
               ⟨some 35, .fad (.t 3) 0, some (33, false)⟩,
               ⟨some 36, .ld false 1 (.t 35), some (33, false)⟩,
               ⟨some 37, .bin .geq (.t 34) (.t 36), some (33, false)⟩,
               ⟨some 38, .mv (.t 37), some (33, false)⟩,
               ⟨some 39, .fad (.t 6) 0, some (38, true)⟩,
               ⟨some 40, .ld false 1 (.t 39), some (38, true)⟩,
               ⟨some 41, .bin .neq (.t 40) (.c (.v false (.int .i64 0))), some (38, true)⟩,
               ⟨some 42, .pick (.t 38) (.t 41) (.c (.v false (.bool false))), some (33, false)⟩,
               ⟨some 43, .pick (.t 33) (.c (.v false (.bool true))) (.t 42), none⟩] none)
             (.cond (.t 43) (.seq (.reg [4] [] [
                 ⟨some 4, .mv (.c (.v false (.bool false))), none⟩] none)
               (.ret))
              (.skip)))
            (.seq (.reg [0, 3, 22, 23, 24, 64] [] [
               ⟨some 44, .fad (.t 6) 0, none⟩,
               ⟨some 45, .ld false 1 (.t 44), none⟩,
               ⟨some 46, .bin .eql (.t 45) (.c (.v false (.int .i64 0))), none⟩,
               ⟨some 47, .mv (.t 46), none⟩,
               ⟨some 48, .fad (.t 6) 1, some (47, true)⟩,
               ⟨some 49, .ld false 1 (.t 48), some (47, true)⟩,
               ⟨some 50, .len (.t 49), some (47, true)⟩,
               ⟨some 51, .bin .gtr (.t 50) (.c (.v false (.int .i64 0))), some (47, true)⟩,
               ⟨some 52, .pick (.t 47) (.t 51) (.c (.v false (.bool false))), none⟩,
               ⟨some 53, .mv (.t 52), none⟩,
               ⟨some 54, .fad (.t 6) 0, some (53, false)⟩,
               ⟨some 55, .ld false 1 (.t 54), some (53, false)⟩,
               ⟨some 56, .bin .neq (.t 55) (.c (.v false (.int .i64 0))), some (53, false)⟩,
               ⟨some 57, .mv (.t 56), some (53, false)⟩,
               ⟨some 58, .mv (.t 0), some (57, true)⟩,
               ⟨some 59, .fad (.t 6) 1, some (57, true)⟩,
               ⟨some 60, .ld false 1 (.t 59), some (57, true)⟩,
               ⟨some 61, .call 19 [] [(.t 58), (.t 60)], some (57, true)⟩,
               ⟨some 62, .un .not (.t 61), some (57, true)⟩,
               ⟨some 63, .pick (.t 57) (.t 62) (.c (.v false (.bool false))), some (53, false)⟩,
               ⟨some 64, .pick (.t 53) (.c (.v false (.bool true))) (.t 63), none⟩] none)
             (.cond (.t 64) (.seq (.reg [4] [] [
                 ⟨some 4, .mv (.c (.v false (.bool false))), none⟩] none)
               (.ret))
              (.skip))))))
         (.reg [0, 3, 22, 23, 24] [] [
           ⟨some 65, .bin .add (.t 24) (.c (.v false (.int .i64 1))), none⟩,
           ⟨some 24, .mv (.t 65), none⟩] none)))

def pb10 : PC :=
.seq (.reg [0, 3] [] [
   ⟨some 3, .box 2 (.t 1), none⟩,
   ⟨some 4, .mv (.c (.v false (.bool false))), none⟩] none)
 (.seq (.seq (.reg [0, 3, 20] [] [
     ⟨some 7, .fad (.t 3) 1, none⟩,
     ⟨some 8, .ld false 1 (.t 7), none⟩,
     ⟨some 9, .len (.t 8), none⟩,
     ⟨some 10, .call 87 [] [(.t 9), (.c (.v false (.int .i64 1))), (.c (.v false (.int .i64 4)))], none⟩,
     ⟨some 11, .un .not (.t 10), none⟩,
     ⟨some 12, .mv (.t 11), none⟩,
     ⟨some 13, .fad (.t 3) 0, some (12, false)⟩,
     ⟨some 14, .ld false 1 (.t 13), some (12, false)⟩,
     ⟨some 15, .fad (.t 3) 1, some (12, false)⟩,
     ⟨some 16, .ld false 1 (.t 15), some (12, false)⟩,
     ⟨some 17, .len (.t 16), some (12, false)⟩,
     ⟨some 18, .call 87 [] [(.t 14), (.c (.v false (.int .i64 0))), (.t 17)], some (12, false)⟩,
     ⟨some 19, .un .not (.t 18), some (12, false)⟩,
     ⟨some 20, .pick (.t 12) (.c (.v false (.bool true))) (.t 19), none⟩] none)
   (.cond (.t 20) (.seq (.reg [4] [] [
       ⟨some 4, .mv (.c (.v false (.bool false))), none⟩] none)
     (.ret))
    (.skip)))
  (.seq (.seq (.reg [0, 3, 22, 23, 24] [] [
      ⟨some 21, .fad (.t 3) 1, none⟩,
      ⟨some 22, .ld false 1 (.t 21), none⟩,
      ⟨some 23, .len (.t 22), none⟩,
      ⟨some 24, .mv (.c (.v false (.int .i64 0))), none⟩] none)
    (.blk 0 (.loop pl10_0)))
   (.seq (.reg [4] [] [
      ⟨some 4, .mv (.c (.v false (.bool true))), none⟩] none)
    (.ret))))

def pf10 : PF := ⟨[.s 4], [], pb10⟩

-- loop.example/g00496/impl.FitsCols
def pl19_0 : PC :=
.seq (.reg [0, 12, 13, 14, 15] [] [
         ⟨some 15, .bin .lss (.t 14) (.t 13), none⟩] none)
       (.seq (.cond (.t 15) (.skip)
         (.exit 0))
        (.seq (.blk 1 (.seq (.reg [0, 5, 6, 12, 13, 14] [] [
             ⟨some 16, .mv (.t 14), none⟩,
             ⟨some 17, .iad 3 (.t 12) (.t 14), none⟩,
             ⟨some 18, .ld true 3 (.t 17), none⟩,
             ⟨some 6, .alloc [(.v false (.int .i64 0)), (.v false (.int .i64 0)), (.v false (.str ⟨#[]⟩))], none⟩,
             ⟨some 5, .mv (.t 16), none⟩,
             ⟨none, .st 3 (.t 6) (.t 18), none⟩] none)
           (.seq (.reg [0, 12, 13, 14, 30] [] [
              ⟨some 19, .ld true 3 (.t 6), none⟩,
              ⟨some 20, .call 60 [] [(.t 19)], none⟩,
              ⟨some 21, .un .not (.t 20), none⟩,
              ⟨some 22, .mv (.t 21), none⟩,
              ⟨some 23, .fad (.t 6) 0, some (22, false)⟩,
              ⟨some 24, .ld false 1 (.t 23), some (22, false)⟩,
              ⟨some 25, .mv (.t 0), some (22, false)⟩,
              ⟨some 26, .mv (.t 5), some (22, false)⟩,
              ⟨some 27, .iad 1 (.t 25) (.t 26), some (22, false)⟩,
              ⟨some 28, .ld false 1 (.t 27), some (22, false)⟩,
              ⟨some 29, .bin .neq (.t 24) (.t 28), some (22, false)⟩,
              ⟨some 30, .pick (.t 22) (.c (.v false (.bool true))) (.t 29), none⟩] (some []))
            (.cond (.t 30) (.seq (.reg [4] [] [
                ⟨some 4, .mv (.c (.v false (.bool false))), none⟩] none)
              (.ret))
             (.skip)))))
         (.reg [0, 12, 13, 14] [] [
           ⟨some 31, .bin .add (.t 14) (.c (.v false (.int .i64 1))), none⟩,
           ⟨some 14, .mv (.t 31), none⟩] none)))

def pb19 : PC :=
.seq (.reg [0, 1] [] [
   ⟨some 4, .mv (.c (.v false (.bool false))), none⟩] none)
 (.seq (.seq (.reg [0, 1, 11] [] [
     ⟨some 7, .mv (.t 1), none⟩,
     ⟨some 8, .len (.t 7), none⟩,
     ⟨some 9, .mv (.t 0), none⟩,
     ⟨some 10, .len (.t 9), none⟩,
     ⟨some 11, .bin .neq (.t 8) (.t 10), none⟩] none)
   (.cond (.t 11) (.seq (.reg [4] [] [
       ⟨some 4, .mv (.c (.v false (.bool false))), none⟩] none)
     (.ret))
    (.skip)))
  (.seq (.seq (.reg [0, 12, 13, 14] [] [
      ⟨some 12, .mv (.t 1), none⟩,
      ⟨some 13, .len (.t 12), none⟩,
      ⟨some 14, .mv (.c (.v false (.int .i64 0))), none⟩] none)
    (.blk 0 (.loop pl19_0)))
   (.seq (.reg [4] [] [
      ⟨some 4, .mv (.c (.v false (.bool true))), none⟩] none)
    (.ret))))

def pf19 : PF := ⟨[.s 4], [], pb19⟩

-- loop.example/g00496/impl.RowsOf
def pl44_0 : PC :=
.seq (.reg [1, 2, 3, 7, 12, 13, 14, 15] [] [
         ⟨some 15, .bin .lss (.t 14) (.t 13), none⟩] none)
       (.seq (.cond (.t 15) (.skip)
         (.exit 0))
        (.seq (.blk 1 (.seq (.reg [1, 2, 3, 7, 8, 9, 12, 13, 14] [] [
             ⟨some 16, .mv (.t 14), none⟩,
             ⟨some 17, .iad 2 (.t 12) (.t 14), none⟩,
             ⟨some 18, .ld true 2 (.t 17), none⟩,
             ⟨some 9, .alloc [(.v false (.int .i64 0)), (.nl 3)], none⟩,
             ⟨some 8, .mv (.t 16), none⟩,
             ⟨none, .st 2 (.t 9) (.t 18), none⟩] none)
           (.seq (.reg [1, 2, 3, 7, 8, 9, 12, 13, 14, 22] [] [
              ⟨some 19, .fad (.t 9) 0, none⟩,
              ⟨some 20, .ld false 1 (.t 19), none⟩,
              ⟨some 21, .mv (.t 2), none⟩,
              ⟨some 22, .call 7 [] [(.t 20), (.t 21)], none⟩] none)
            (.cond (.t 22) (.reg [1, 2, 3, 7, 12, 13, 14] [(32, 7)] [
               ⟨some 23, .mv (.t 7), none⟩,
               ⟨some 24, .mv (.t 1), none⟩,
               ⟨some 25, .mv (.t 8), none⟩,
               ⟨some 26, .bin .add (.t 24) (.t 25), none⟩,
               ⟨some 27, .fad (.t 9) 1, none⟩,
               ⟨some 28, .ld false 1 (.t 27), none⟩,
               ⟨some 29, .call 76 [] [(.t 28)], none⟩,
               ⟨some 30, .build [(.v false (.int .i64 0)), (.nl 3)] [(0, 1, (.t 26)), (1, 1, (.t 29))], none⟩,
               ⟨some 31, .bsl 2 [.int .i64 0, .sl 3 []] 1 [(0, (.t 30))], none⟩,
               ⟨some 32, .app 2 32 (.t 23) (.t 31), none⟩,
               ⟨some 7, .mv (.t 32), none⟩] none)
             (.skip)))))
         (.reg [1, 2, 3, 7, 12, 13, 14] [] [
           ⟨some 33, .bin .add (.t 14) (.c (.v false (.int .i64 1))), none⟩,
           ⟨some 14, .mv (.t 33), none⟩] none)))

def pb44 : PC :=
.seq (.reg [1, 2, 3] [] [
   ⟨some 3, .box 2 (.t 0), none⟩,
   ⟨some 6, .mv (.c (.nl 2)), none⟩] none)
 (.seq (.reg [1, 2, 3, 7] [(10, 7)] [
    ⟨some 10, .bsl 2 [] 0 [], none⟩,
    ⟨some 7, .mv (.t 10), none⟩] none)
  (.seq (.seq (.reg [1, 2, 3, 7, 12, 13, 14] [] [
      ⟨some 11, .fad (.t 3) 1, none⟩,
      ⟨some 12, .ld false 1 (.t 11), none⟩,
      ⟨some 13, .len (.t 12), none⟩,
      ⟨some 14, .mv (.c (.v false (.int .i64 0))), none⟩] none)
    (.blk 0 (.loop pl44_0)))
   (.seq (.reg [6, 7] [] [
      ⟨some 34, .mv (.t 7), none⟩,
      ⟨some 6, .mv (.t 34), none⟩] none)
    (.ret))))

def pf44 : PF := ⟨[.s 6], [], pb44⟩

-- loop.example/g00496/impl.Stamp
def pb54 : PC :=
.seq (.reg [0, 1] [] [
   ⟨some 4, .mv (.c (.v false (.int .i64 0))), none⟩,
   ⟨some 5, .mv (.c (.v false (.bool false))), none⟩] none)
 (.seq (.seq (.reg [0, 1, 11] [] [
     ⟨some 6, .mv (.t 0), none⟩,
     ⟨some 7, .bin .eql (.t 6) (.c (.v false (.int .i64 (-1)))), none⟩,
     ⟨some 8, .mv (.t 7), none⟩,
     ⟨some 9, .mv (.t 1), some (8, true)⟩,
     ⟨some 10, .bin .gtr (.t 9) (.c (.v false (.int .i64 0))), some (8, true)⟩,
     ⟨some 11, .pick (.t 8) (.t 10) (.c (.v false (.bool false))), none⟩] none)
   (.cond (.t 11) (.seq (.reg [4, 5] [] [
       ⟨some 12, .mv (.t 1), none⟩,
       ⟨some 4, .mv (.t 12), none⟩,
       ⟨some 5, .mv (.c (.v false (.bool true))), none⟩] none)
     (.ret))
    (.skip)))
  (.seq (.reg [4, 5] [] [
     ⟨some 13, .mv (.t 0), none⟩,
     ⟨some 4, .mv (.t 13), none⟩,
     ⟨some 5, .mv (.c (.v false (.bool false))), none⟩] none)
   (.ret)))

def pf54 : PF := ⟨[.s 4, .s 5], [], pb54⟩

-- loop.example/g00496/impl.StampSlot
def pb55 : PC :=
.seq (.reg [1, 2, 3, 6] [] [
   ⟨some 3, .box 2 (.t 0), none⟩,
   ⟨some 6, .alloc [(.v false (.int .i64 0)), (.nl 2)], none⟩,
   ⟨some 7, .mv (.c (.v false (.bool false))), none⟩] none)
 (.seq (.reg [1, 2, 3, 6, 8] [] [
    ⟨some 11, .ld true 2 (.t 3), none⟩,
    ⟨some 12, .call 70 [] [(.t 11)], none⟩,
    ⟨some 8, .alloc [(.v false (.int .i64 0)), (.nl 2)], none⟩,
    ⟨none, .st 2 (.t 8) (.t 12), none⟩] none)
  (.seq (.seq (.reg [1, 2, 3, 6, 8, 16] [] [
      ⟨some 13, .ld true 2 (.t 3), none⟩,
      ⟨some 14, .mv (.t 1), none⟩,
      ⟨some 15, .call 78 [] [(.t 13), (.t 14)], none⟩,
      ⟨some 16, .un .not (.t 15), none⟩] none)
    (.cond (.t 16) (.seq (.reg [6, 7] [] [
        ⟨some 17, .ld true 2 (.t 8), none⟩,
        ⟨none, .st 2 (.t 6) (.t 17), none⟩,
        ⟨some 7, .mv (.c (.v false (.bool false))), none⟩] none)
      (.ret))
     (.skip)))
   (.seq (.reg [1, 6, 8, 9, 10] [(26, 9)] [
      ⟨some 19, .fad (.t 3) 1, none⟩,
      ⟨some 20, .ld false 1 (.t 19), none⟩,
      ⟨some 21, .mv (.t 1), none⟩,
      ⟨some 22, .iad 2 (.t 20) (.t 21), none⟩,
      ⟨some 23, .fad (.t 22) 0, none⟩,
      ⟨some 24, .ld false 1 (.t 23), none⟩,
      ⟨some 25, .mv (.t 2), none⟩,
      ⟨some 26, .call 54 [] [(.t 24), (.t 25)], none⟩,
      ⟨some 18, .mv (.t 26), none⟩,
      ⟨some 27, .ext (.t 18) 0, none⟩,
      ⟨some 28, .ext (.t 18) 1, none⟩,
      ⟨some 9, .mv (.t 27), none⟩,
      ⟨some 10, .mv (.t 28), none⟩] none)
    (.seq (.reg [6, 8, 9, 10] [] [
       ⟨some 29, .fad (.t 8) 1, none⟩,
       ⟨some 30, .ld false 1 (.t 29), none⟩,
       ⟨some 31, .mv (.t 1), none⟩,
       ⟨some 32, .mv (.t 9), none⟩,
       ⟨some 33, .iad 2 (.t 30) (.t 31), none⟩,
       ⟨some 34, .fad (.t 33) 0, none⟩,
       ⟨none, .st 1 (.t 34) (.t 32), none⟩] none)
     (.seq (.reg [6, 7, 9] [] [
        ⟨some 35, .ld true 2 (.t 8), none⟩,
        ⟨some 36, .mv (.t 10), none⟩,
        ⟨none, .st 2 (.t 6) (.t 35), none⟩,
        ⟨some 7, .mv (.t 36), none⟩] none)
      (.ret))))))

def pf55 : PF := ⟨[.b 6 2 true, .s 7], [], pb55⟩

-- loop.example/g00496/impl.ValOk
def pl60_0 : PC :=
.seq (.seq (.reg [1, 3, 24] [] [
                ⟨some 20, .mv (.t 3), none⟩,
                ⟨some 21, .fad (.t 1) 2, none⟩,
                ⟨some 22, .ld false 1 (.t 21), none⟩,
                ⟨some 23, .lens (.t 22), none⟩,
                ⟨some 24, .bin .lss (.t 20) (.t 23), none⟩] none)
              (.cond (.t 24) (.skip)
               (.exit 1)))
             (.seq (.blk 2 (.seq (.reg [1, 3, 4] [] [
                  ⟨some 27, .fad (.t 1) 2, none⟩,
                  ⟨some 28, .ld false 1 (.t 27), none⟩,
                  ⟨some 29, .mv (.t 3), none⟩,
                  ⟨some 30, .idx (.t 28) (.t 29), none⟩,
                  ⟨some 31, .bin .geq (.t 30) (.c (.v false (.int .u8 97))), none⟩,
                  ⟨some 32, .mv (.t 31), none⟩,
                  ⟨some 33, .fad (.t 1) 2, some (32, true)⟩,
                  ⟨some 34, .ld false 1 (.t 33), some (32, true)⟩,
                  ⟨some 35, .mv (.t 3), some (32, true)⟩,
                  ⟨some 36, .idx (.t 34) (.t 35), some (32, true)⟩,
                  ⟨some 37, .bin .leq (.t 36) (.c (.v false (.int .u8 122))), some (32, true)⟩,
                  ⟨some 38, .pick (.t 32) (.t 37) (.c (.v false (.bool false))), none⟩,
                  ⟨some 4, .mv (.t 38), none⟩] none)
                (.seq (.reg [1, 3, 4, 5] [] [
                   ⟨some 39, .fad (.t 1) 2, none⟩,
                   ⟨some 40, .ld false 1 (.t 39), none⟩,
                   ⟨some 41, .mv (.t 3), none⟩,
                   ⟨some 42, .idx (.t 40) (.t 41), none⟩,
                   ⟨some 43, .bin .geq (.t 42) (.c (.v false (.int .u8 48))), none⟩,
                   ⟨some 44, .mv (.t 43), none⟩,
                   ⟨some 45, .fad (.t 1) 2, some (44, true)⟩,
                   ⟨some 46, .ld false 1 (.t 45), some (44, true)⟩,
                   ⟨some 47, .mv (.t 3), some (44, true)⟩,
                   ⟨some 48, .idx (.t 46) (.t 47), some (44, true)⟩,
                   ⟨some 49, .bin .leq (.t 48) (.c (.v false (.int .u8 57))), some (44, true)⟩,
                   ⟨some 50, .pick (.t 44) (.t 49) (.c (.v false (.bool false))), none⟩,
                   ⟨some 5, .mv (.t 50), none⟩] none)
                 (.seq (.reg [1, 3, 56] [] [
                    ⟨some 51, .mv (.t 4), none⟩,
                    ⟨some 52, .un .not (.t 51), none⟩,
                    ⟨some 53, .mv (.t 52), none⟩,
                    ⟨some 54, .mv (.t 5), some (53, true)⟩,
                    ⟨some 55, .un .not (.t 54), some (53, true)⟩,
                    ⟨some 56, .pick (.t 53) (.t 55) (.c (.v false (.bool false))), none⟩] none)
                  (.cond (.t 56) (.seq (.reg [2] [] [
                      ⟨some 2, .mv (.c (.v false (.bool false))), none⟩] none)
                    (.ret))
                   (.skip))))))
              (.reg [1, 3] [] [
                ⟨some 25, .mv (.t 3), none⟩,
                ⟨some 26, .bin .add (.t 25) (.c (.v false (.int .i64 1))), none⟩,
                ⟨some 3, .mv (.t 26), none⟩] none))

def pb60 : PC :=
.seq (.reg [1] [] [
   ⟨some 1, .box 3 (.t 0), none⟩,
   ⟨some 2, .mv (.c (.v false (.bool false))), none⟩] none)
 (.seq (.seq (.reg [1, 7] [] [
     ⟨some 6, .fad (.t 1) 0, none⟩,
     ⟨some 7, .ld false 1 (.t 6), none⟩] none)
   (.blk 0 (.seq (.reg [1, 7, 8] [] [
       ⟨some 9, .bin .eql (.t 7) (.c (.v false (.int .i64 1))), none⟩,
       ⟨some 8, .mv (.t 9), none⟩] none)
     (.cond (.t 8) (.seq (.reg [2] [(12, 2)] [
         ⟨some 10, .fad (.t 1) 1, none⟩,
         ⟨some 11, .ld false 1 (.t 10), none⟩,
         ⟨some 12, .call 79 [] [(.t 11)], none⟩,
         ⟨some 13, .mv (.t 12), none⟩,
         ⟨some 14, .fad (.t 1) 2, some (13, true)⟩,
         ⟨some 15, .ld false 1 (.t 14), some (13, true)⟩,
         ⟨some 16, .bin .eql (.t 15) (.c (.v false (.str ⟨#[]⟩))), some (13, true)⟩,
         ⟨some 17, .pick (.t 13) (.t 16) (.c (.v false (.bool false))), none⟩,
         ⟨some 2, .mv (.t 17), none⟩] none)
       (.ret))
      (.seq (.reg [1, 18] [] [
         ⟨some 19, .bin .eql (.t 7) (.c (.v false (.int .i64 2))), none⟩,
         ⟨some 18, .mv (.t 19), none⟩] none)
       (.cond (.t 18) (.seq (.seq (.reg [1, 3] [] [
            ⟨some 3, .mv (.c (.v false (.int .i64 0))), none⟩] none)
          (.blk 1 (.loop pl60_0)))
         (.seq (.reg [2] [] [
            ⟨some 57, .fad (.t 1) 2, none⟩,
            ⟨some 58, .ld false 1 (.t 57), none⟩,
            ⟨some 59, .lens (.t 58), none⟩,
            ⟨some 60, .bin .leq (.t 59) (.c (.v false (.int .i64 6))), none⟩,
            ⟨some 61, .mv (.t 60), none⟩,
            ⟨some 62, .fad (.t 1) 1, some (61, true)⟩,
            ⟨some 63, .ld false 1 (.t 62), some (61, true)⟩,
            ⟨some 64, .bin .eql (.t 63) (.c (.v false (.int .i64 0))), some (61, true)⟩,
            ⟨some 65, .pick (.t 61) (.t 64) (.c (.v false (.bool false))), none⟩,
            ⟨some 2, .mv (.t 65), none⟩] none)
          (.ret)))
        (.skip)))))))
  (.seq (.reg [2] [] [
     ⟨some 2, .mv (.c (.v false (.bool false))), none⟩] none)
   (.ret)))

def pf60 : PF := ⟨[.s 2], [], pb60⟩

-- loop.example/g00496/impl.Whole
def pl62_0 : PC :=
.seq (.reg [1, 2, 8, 9, 10, 11] [] [
        ⟨some 11, .bin .lss (.t 10) (.t 9), none⟩] none)
      (.seq (.cond (.t 11) (.skip)
        (.exit 0))
       (.seq (.blk 1 (.seq (.reg [1, 2, 6, 8, 9, 10] [] [
            ⟨some 12, .iad 2 (.t 8) (.t 10), none⟩,
            ⟨some 13, .ld true 2 (.t 12), none⟩,
            ⟨some 6, .alloc [(.v false (.int .i64 0)), (.nl 3)], none⟩,
            ⟨none, .st 2 (.t 6) (.t 13), none⟩] none)
          (.seq (.reg [1, 2, 8, 9, 10, 18] [] [
             ⟨some 14, .fad (.t 6) 0, none⟩,
             ⟨some 15, .ld false 1 (.t 14), none⟩,
             ⟨some 16, .mv (.t 1), none⟩,
             ⟨some 17, .call 7 [] [(.t 15), (.t 16)], none⟩,
             ⟨some 18, .un .not (.t 17), none⟩] none)
           (.cond (.t 18) (.seq (.reg [4] [] [
               ⟨some 4, .mv (.c (.v false (.bool false))), none⟩] none)
             (.ret))
            (.skip)))))
        (.reg [1, 2, 8, 9, 10] [] [
          ⟨some 19, .bin .add (.t 10) (.c (.v false (.int .i64 1))), none⟩,
          ⟨some 10, .mv (.t 19), none⟩] none)))

def pb62 : PC :=
.seq (.reg [1, 2] [] [
   ⟨some 2, .box 2 (.t 0), none⟩,
   ⟨some 4, .mv (.c (.v false (.bool false))), none⟩] none)
 (.seq (.seq (.reg [1, 2, 8, 9, 10] [] [
     ⟨some 7, .fad (.t 2) 1, none⟩,
     ⟨some 8, .ld false 1 (.t 7), none⟩,
     ⟨some 9, .len (.t 8), none⟩,
     ⟨some 10, .mv (.c (.v false (.int .i64 0))), none⟩] none)
   (.blk 0 (.loop pl62_0)))
  (.seq (.reg [4] [] [
     ⟨some 20, .fad (.t 2) 0, none⟩,
     ⟨some 21, .ld false 1 (.t 20), none⟩,
     ⟨some 22, .fad (.t 2) 1, none⟩,
     ⟨some 23, .ld false 1 (.t 22), none⟩,
     ⟨some 24, .len (.t 23), none⟩,
     ⟨some 25, .bin .eql (.t 21) (.t 24), none⟩,
     ⟨some 4, .mv (.t 25), none⟩] none)
   (.ret)))

def pf62 : PF := ⟨[.s 4], [], pb62⟩

-- loop.example/g00496/impl.cloneChunk
def pl70_0 : PC :=
.seq (.reg [1, 2, 3, 10, 11, 12, 13] [] [
         ⟨some 13, .bin .lss (.t 12) (.t 11), none⟩] none)
       (.seq (.cond (.t 13) (.skip)
         (.exit 0))
        (.seq (.blk 1 (.seq (.reg [1, 2, 3, 5, 10, 11, 12] [] [
             ⟨some 14, .iad 2 (.t 10) (.t 12), none⟩,
             ⟨some 15, .ld true 2 (.t 14), none⟩,
             ⟨some 5, .alloc [(.v false (.int .i64 0)), (.nl 3)], none⟩,
             ⟨none, .st 2 (.t 5) (.t 15), none⟩] none)
           (.reg [1, 2, 3, 10, 11, 12] [] [
             ⟨some 16, .fad (.t 3) 1, none⟩,
             ⟨some 17, .ld false 1 (.t 16), none⟩,
             ⟨some 18, .fad (.t 5) 0, none⟩,
             ⟨some 19, .ld false 1 (.t 18), none⟩,
             ⟨some 20, .fad (.t 5) 1, none⟩,
             ⟨some 21, .ld false 1 (.t 20), none⟩,
             ⟨some 22, .call 76 [] [(.t 21)], none⟩,
             ⟨some 23, .build [(.v false (.int .i64 0)), (.nl 3)] [(0, 1, (.t 19)), (1, 1, (.t 22))], none⟩,
             ⟨some 24, .bsl 2 [.int .i64 0, .sl 3 []] 1 [(0, (.t 23))], none⟩,
             ⟨some 25, .app 2 32 (.t 17) (.t 24), none⟩,
             ⟨some 26, .fad (.t 3) 1, none⟩,
             ⟨none, .st 1 (.t 26) (.t 25), none⟩] (some [(1, 6), (3, 6), (1, 8)]))))
         (.reg [1, 2, 3, 10, 11, 12] [] [
           ⟨some 27, .bin .add (.t 12) (.c (.v false (.int .i64 1))), none⟩,
           ⟨some 12, .mv (.t 27), none⟩] none)))

def pb70 : PC :=
.seq (.reg [1, 2] [] [
   ⟨some 1, .box 2 (.t 0), none⟩,
   ⟨some 2, .alloc [(.v false (.int .i64 0)), (.nl 2)], none⟩] none)
 (.seq (.reg [1, 2, 3] [] [
    ⟨some 6, .fad (.t 1) 0, none⟩,
    ⟨some 7, .ld false 1 (.t 6), none⟩,
    ⟨some 8, .build [(.v false (.int .i64 0)), (.nl 2)] [(0, 1, (.t 7))], none⟩,
    ⟨some 3, .alloc [(.v false (.int .i64 0)), (.nl 2)], none⟩,
    ⟨none, .st 2 (.t 3) (.t 8), none⟩] none)
  (.seq (.seq (.reg [1, 2, 3, 10, 11, 12] [] [
      ⟨some 9, .fad (.t 1) 1, none⟩,
      ⟨some 10, .ld false 1 (.t 9), none⟩,
      ⟨some 11, .len (.t 10), none⟩,
      ⟨some 12, .mv (.c (.v false (.int .i64 0))), none⟩] none)
    (.blk 0 (.loop pl70_0)))
   (.seq (.reg [2] [] [
      ⟨some 28, .ld true 2 (.t 3), none⟩,
      ⟨none, .st 2 (.t 2) (.t 28), none⟩] none)
    (.ret))))

def pf70 : PF := ⟨[.b 2 2 true], [], pb70⟩

-- loop.example/g00496/impl.cloneVals
def pb76 : PC :=
.seq (.reg [0] [] [
   ⟨some 2, .mv (.c (.nl 3)), none⟩] none)
 (.seq (.reg [2] [(5, 2)] [
    ⟨some 3, .bsl 3 [] 0 [], none⟩,
    ⟨some 4, .mv (.t 0), none⟩,
    ⟨some 5, .app 3 32 (.t 3) (.t 4), none⟩,
    ⟨some 2, .mv (.t 5), none⟩] none)
  (.ret))

def pf76 : PF := ⟨[.s 2], [], pb76⟩

-- loop.example/g00496/impl.hasSlot
def pb78 : PC :=
.seq (.reg [1, 2] [] [
   ⟨some 2, .box 2 (.t 0), none⟩,
   ⟨some 4, .mv (.c (.v false (.bool false))), none⟩] none)
 (.seq (.reg [4] [] [
    ⟨some 5, .mv (.t 1), none⟩,
    ⟨some 6, .bin .geq (.t 5) (.c (.v false (.int .i64 0))), none⟩,
    ⟨some 7, .mv (.t 6), none⟩,
    ⟨some 8, .mv (.t 1), some (7, true)⟩,
    ⟨some 9, .fad (.t 2) 1, some (7, true)⟩,
    ⟨some 10, .ld false 1 (.t 9), some (7, true)⟩,
    ⟨some 11, .len (.t 10), some (7, true)⟩,
    ⟨some 12, .bin .lss (.t 8) (.t 11), some (7, true)⟩,
    ⟨some 13, .pick (.t 7) (.t 12) (.c (.v false (.bool false))), none⟩,
    ⟨some 4, .mv (.t 13), none⟩] none)
  (.ret))

def pf78 : PF := ⟨[.s 4], [], pb78⟩

-- loop.example/g00496/impl.isNum
def pb79 : PC :=
.seq (.reg [0] [] [
   ⟨some 2, .mv (.c (.v false (.bool false))), none⟩] none)
 (.seq (.reg [2] [(4, 2)] [
    ⟨some 3, .mv (.t 0), none⟩,
    ⟨some 4, .call 87 [] [(.t 3), (.c (.v false (.int .i64 (-1000000000)))), (.c (.v false (.int .i64 1000000000)))], none⟩,
    ⟨some 2, .mv (.t 4), none⟩] none)
  (.ret))

def pf79 : PF := ⟨[.s 2], [], pb79⟩

-- loop.example/g00496/impl.within
def pb87 : PC :=
.seq (.reg [0, 1, 2] [] [
   ⟨some 6, .mv (.c (.v false (.bool false))), none⟩] none)
 (.seq (.reg [6] [] [
    ⟨some 7, .mv (.t 0), none⟩,
    ⟨some 8, .mv (.t 1), none⟩,
    ⟨some 9, .bin .geq (.t 7) (.t 8), none⟩,
    ⟨some 10, .mv (.t 9), none⟩,
    ⟨some 11, .mv (.t 0), some (10, true)⟩,
    ⟨some 12, .mv (.t 2), some (10, true)⟩,
    ⟨some 13, .bin .leq (.t 11) (.t 12), some (10, true)⟩,
    ⟨some 14, .pick (.t 10) (.t 13) (.c (.v false (.bool false))), none⟩,
    ⟨some 6, .mv (.t 14), none⟩] none)
  (.ret))

def pf87 : PF := ⟨[.s 6], [], pb87⟩

-- loop.example/g00496/laws.FnWholes
def pb140 : PC :=
.seq (.reg [0] [] [
   ⟨some 2, .mv (.c (.v false (.bool false))), none⟩] none)
 (.seq (.seq (.reg [0, 19] [] [
     ⟨some 18, .mv (.t 0), none⟩,
     ⟨some 19, .call 141 [] [(.t 18)], none⟩] none)
   (.cond (.t 19) (.seq (.reg [2] [] [
       ⟨some 2, .mv (.c (.v false (.bool true))), none⟩] none)
     (.ret))
    (.skip)))
  (.seq (.reg [0, 3, 4] [(22, 4)] [
     ⟨some 21, .mv (.t 0), none⟩,
     ⟨some 22, .call 293 [] [(.t 21)], none⟩,
     ⟨some 20, .mv (.t 22), none⟩,
     ⟨some 23, .ext (.t 20) 0, none⟩,
     ⟨some 24, .ext (.t 20) 1, none⟩,
     ⟨some 3, .alloc [(.v false (.int .i64 0)), (.nl 2)], none⟩,
     ⟨none, .st 2 (.t 3) (.t 23), none⟩,
     ⟨some 4, .mv (.t 24), none⟩] none)
   (.seq (.reg [0, 3, 4, 5, 6, 7] [(27, 6)] [
      ⟨some 26, .mv (.t 0), none⟩,
      ⟨some 27, .call 290 [] [(.t 26)], none⟩,
      ⟨some 25, .mv (.t 27), none⟩,
      ⟨some 28, .ext (.t 25) 0, none⟩,
      ⟨some 29, .ext (.t 25) 1, none⟩,
      ⟨some 30, .ext (.t 25) 2, none⟩,
      ⟨some 5, .alloc [(.v false (.int .i64 0)), (.nl 2)], none⟩,
      ⟨none, .st 2 (.t 5) (.t 28), none⟩,
      ⟨some 6, .mv (.t 29), none⟩,
      ⟨some 7, .mv (.t 30), none⟩] none)
    (.seq (.reg [0, 3, 4, 5, 6, 7, 8, 9] [(35, 9)] [
       ⟨some 32, .ld true 2 (.t 5), none⟩,
       ⟨some 33, .mv (.t 6), none⟩,
       ⟨some 34, .mv (.t 7), none⟩,
       ⟨some 35, .call 55 [] [(.t 32), (.t 33), (.t 34)], none⟩,
       ⟨some 31, .mv (.t 35), none⟩,
       ⟨some 36, .ext (.t 31) 0, none⟩,
       ⟨some 37, .ext (.t 31) 1, none⟩,
       ⟨some 8, .alloc [(.v false (.int .i64 0)), (.nl 2)], none⟩,
       ⟨none, .st 2 (.t 8) (.t 36), none⟩,
       ⟨some 9, .mv (.t 37), none⟩] none)
     (.seq (.reg [0, 3, 4, 8, 9, 10, 11] [(42, 11)] [
        ⟨some 39, .ld true 2 (.t 5), none⟩,
        ⟨some 40, .mv (.t 6), none⟩,
        ⟨some 41, .mv (.t 7), none⟩,
        ⟨some 42, .call 336 [] [(.t 39), (.t 40), (.t 41)], none⟩,
        ⟨some 38, .mv (.t 42), none⟩,
        ⟨some 43, .ext (.t 38) 0, none⟩,
        ⟨some 44, .ext (.t 38) 1, none⟩,
        ⟨some 10, .alloc [(.v false (.int .i64 0)), (.nl 2)], none⟩,
        ⟨none, .st 2 (.t 10) (.t 43), none⟩,
        ⟨some 11, .mv (.t 44), none⟩] none)
      (.seq (.reg [0, 3, 4, 8, 9, 10, 11, 12, 13, 14] [(47, 13)] [
         ⟨some 46, .mv (.t 0), none⟩,
         ⟨some 47, .call 288 [] [(.t 46)], none⟩,
         ⟨some 45, .mv (.t 47), none⟩,
         ⟨some 48, .ext (.t 45) 0, none⟩,
         ⟨some 49, .ext (.t 45) 1, none⟩,
         ⟨some 50, .ext (.t 45) 2, none⟩,
         ⟨some 12, .alloc [(.v false (.int .i64 0)), (.nl 2)], none⟩,
         ⟨none, .st 2 (.t 12) (.t 48), none⟩,
         ⟨some 13, .mv (.t 49), none⟩,
         ⟨some 14, .mv (.t 50), none⟩] none)
       (.seq (.reg [0, 3, 4, 8, 9, 10, 11, 12, 13, 14, 15, 16] [(53, 15)] [
          ⟨some 52, .mv (.t 0), none⟩,
          ⟨some 53, .call 275 [] [(.t 52)], none⟩,
          ⟨some 51, .mv (.t 53), none⟩,
          ⟨some 54, .ext (.t 51) 0, none⟩,
          ⟨some 55, .ext (.t 51) 1, none⟩,
          ⟨some 16, .alloc [(.v false (.int .i64 0)), (.nl 2)], none⟩,
          ⟨some 15, .mv (.t 54), none⟩,
          ⟨none, .st 2 (.t 16) (.t 55), none⟩] none)
        (.seq (.reg [3, 4, 8, 9, 10, 11, 12, 13, 14, 15, 16, 17] [(57, 17)] [
           ⟨some 56, .mv (.t 0), none⟩,
           ⟨some 57, .call 274 [] [(.t 56)], none⟩,
           ⟨some 17, .mv (.t 57), none⟩] none)
         (.seq (.seq (.reg [3, 4, 15, 104] [] [
             ⟨some 58, .ld true 2 (.t 3), none⟩,
             ⟨some 59, .mv (.t 4), none⟩,
             ⟨some 60, .call 62 [] [(.t 58), (.t 59)], none⟩,
             ⟨some 61, .ld true 2 (.t 3), none⟩,
             ⟨some 62, .mv (.t 4), none⟩,
             ⟨some 63, .call 343 [] [(.t 61), (.t 62)], none⟩,
             ⟨some 64, .eqb true (.t 60) (.t 63), none⟩,
             ⟨some 65, .mv (.t 64), none⟩,
             ⟨some 66, .ld true 2 (.t 8), some (65, false)⟩,
             ⟨some 67, .ld true 2 (.t 10), some (65, false)⟩,
             ⟨some 68, .call 199 [] [(.t 66), (.t 67)], some (65, false)⟩,
             ⟨some 69, .un .not (.t 68), some (65, false)⟩,
             ⟨some 70, .pick (.t 65) (.c (.v false (.bool true))) (.t 69), none⟩,
             ⟨some 71, .mv (.t 70), none⟩,
             ⟨some 72, .mv (.t 9), some (71, false)⟩,
             ⟨some 73, .mv (.t 11), some (71, false)⟩,
             ⟨some 74, .eqb true (.t 72) (.t 73), some (71, false)⟩,
             ⟨some 75, .pick (.t 71) (.c (.v false (.bool true))) (.t 74), none⟩,
             ⟨some 76, .mv (.t 75), none⟩,
             ⟨some 77, .ld true 2 (.t 12), some (76, false)⟩,
             ⟨some 78, .mv (.t 13), some (76, false)⟩,
             ⟨some 79, .mv (.t 14), some (76, false)⟩,
             ⟨some 80, .call 44 [] [(.t 77), (.t 78), (.t 79)], some (76, false)⟩,
             ⟨some 81, .ld true 2 (.t 12), some (76, false)⟩,
             ⟨some 82, .mv (.t 13), some (76, false)⟩,
             ⟨some 83, .mv (.t 14), some (76, false)⟩,
             ⟨some 84, .call 325 [] [(.t 81), (.t 82), (.t 83)], some (76, false)⟩,
             ⟨some 85, .call 208 [] [(.t 80), (.t 84)], some (76, false)⟩,
             ⟨some 86, .un .not (.t 85), some (76, false)⟩,
             ⟨some 87, .pick (.t 76) (.c (.v false (.bool true))) (.t 86), none⟩,
             ⟨some 88, .mv (.t 87), none⟩,
             ⟨some 89, .mv (.t 15), some (88, false)⟩,
             ⟨some 90, .ld true 2 (.t 16), some (88, false)⟩,
             ⟨some 91, .call 10 [] [(.t 89), (.t 90)], some (88, false)⟩,
             ⟨some 92, .mv (.t 15), some (88, false)⟩,
             ⟨some 93, .ld true 2 (.t 16), some (88, false)⟩,
             ⟨some 94, .call 266 [] [(.t 92), (.t 93)], some (88, false)⟩,
             ⟨some 95, .eqb true (.t 91) (.t 94), some (88, false)⟩,
             ⟨some 96, .pick (.t 88) (.c (.v false (.bool true))) (.t 95), none⟩,
             ⟨some 97, .mv (.t 96), none⟩,
             ⟨some 98, .mv (.t 17), some (97, false)⟩,
             ⟨some 99, .call 9 [] [(.t 98)], some (97, false)⟩,
             ⟨some 100, .mv (.t 17), some (97, false)⟩,
             ⟨some 101, .call 265 [] [(.t 100)], some (97, false)⟩,
             ⟨some 102, .call 199 [] [(.t 99), (.t 101)], some (97, false)⟩,
             ⟨some 103, .un .not (.t 102), some (97, false)⟩,
             ⟨some 104, .pick (.t 97) (.c (.v false (.bool true))) (.t 103), none⟩] (some [(2, 3), (22, 23), (33, 35)]))
           (.cond (.t 104) (.seq (.reg [2] [] [
               ⟨some 2, .mv (.c (.v false (.bool false))), none⟩] none)
             (.ret))
            (.skip)))
          (.seq (.reg [2] [(128, 2)] [
             ⟨some 105, .ld true 2 (.t 3), none⟩,
             ⟨some 106, .mv (.t 4), none⟩,
             ⟨some 107, .call 62 [] [(.t 105), (.t 106)], none⟩,
             ⟨some 108, .ld true 2 (.t 3), none⟩,
             ⟨some 109, .mv (.t 4), none⟩,
             ⟨some 110, .call 44 [] [(.t 108), (.c (.v false (.int .i64 0))), (.t 109)], none⟩,
             ⟨some 111, .len (.t 110), none⟩,
             ⟨some 112, .fad (.t 3) 1, none⟩,
             ⟨some 113, .ld false 1 (.t 112), none⟩,
             ⟨some 114, .len (.t 113), none⟩,
             ⟨some 115, .bin .eql (.t 111) (.t 114), none⟩,
             ⟨some 116, .mv (.t 115), none⟩,
             ⟨some 117, .fad (.t 3) 0, some (116, true)⟩,
             ⟨some 118, .ld false 1 (.t 117), some (116, true)⟩,
             ⟨some 119, .fad (.t 3) 1, some (116, true)⟩,
             ⟨some 120, .ld false 1 (.t 119), some (116, true)⟩,
             ⟨some 121, .len (.t 120), some (116, true)⟩,
             ⟨some 122, .bin .eql (.t 118) (.t 121), some (116, true)⟩,
             ⟨some 123, .pick (.t 116) (.t 122) (.c (.v false (.bool false))), none⟩,
             ⟨some 124, .eqb false (.t 107) (.t 123), none⟩,
             ⟨some 125, .mv (.t 124), none⟩,
             ⟨some 126, .mv (.t 15), some (125, true)⟩,
             ⟨some 127, .call 9 [] [(.c (.v false (.int .i64 2)))], some (125, true)⟩,
             ⟨some 128, .call 10 [] [(.t 126), (.t 127)], some (125, true)⟩,
             ⟨some 129, .pick (.t 125) (.t 128) (.c (.v false (.bool false))), none⟩,
             ⟨some 2, .mv (.t 129), none⟩] (some [(2, 3), (2, 8), (5, 8), (2, 9), (5, 9)]))
           (.ret)))))))))))

def pf140 : PF := ⟨[.s 2], [], pb140⟩

-- loop.example/g00496/laws.big
def pb141 : PC :=
.seq (.reg [0] [] [
   ⟨some 2, .mv (.c (.v false (.bool false))), none⟩] none)
 (.seq (.reg [2] [] [
    ⟨some 3, .mv (.t 0), none⟩,
    ⟨some 4, .len (.t 3), none⟩,
    ⟨some 5, .bin .gtr (.t 4) (.c (.v false (.int .i64 1048576))), none⟩,
    ⟨some 2, .mv (.t 5), none⟩] none)
  (.ret))

def pf141 : PF := ⟨[.s 2], [], pb141⟩

-- loop.example/g00496/laws.sameChunk
def pl199_0 : PC :=
.seq (.seq (.reg [2, 3, 5, 24] [] [
          ⟨some 20, .mv (.t 5), none⟩,
          ⟨some 21, .fad (.t 2) 1, none⟩,
          ⟨some 22, .ld false 1 (.t 21), none⟩,
          ⟨some 23, .len (.t 22), none⟩,
          ⟨some 24, .bin .lss (.t 20) (.t 23), none⟩] none)
        (.cond (.t 24) (.skip)
         (.exit 0)))
       (.seq (.blk 1 (.seq (.reg [2, 3, 5, 55] [] [
            ⟨some 27, .fad (.t 2) 1, none⟩,
            ⟨some 28, .ld false 1 (.t 27), none⟩,
            ⟨some 29, .mv (.t 5), none⟩,
            ⟨some 30, .iad 2 (.t 28) (.t 29), none⟩,
            ⟨some 31, .fad (.t 30) 0, none⟩,
            ⟨some 32, .ld false 1 (.t 31), none⟩,
            ⟨some 33, .fad (.t 3) 1, none⟩,
            ⟨some 34, .ld false 1 (.t 33), none⟩,
            ⟨some 35, .mv (.t 5), none⟩,
            ⟨some 36, .iad 2 (.t 34) (.t 35), none⟩,
            ⟨some 37, .fad (.t 36) 0, none⟩,
            ⟨some 38, .ld false 1 (.t 37), none⟩,
            ⟨some 39, .bin .neq (.t 32) (.t 38), none⟩,
            ⟨some 40, .mv (.t 39), none⟩,
            ⟨some 41, .fad (.t 2) 1, some (40, false)⟩,
            ⟨some 42, .ld false 1 (.t 41), some (40, false)⟩,
            ⟨some 43, .mv (.t 5), some (40, false)⟩,
            ⟨some 44, .iad 2 (.t 42) (.t 43), some (40, false)⟩,
            ⟨some 45, .fad (.t 44) 1, some (40, false)⟩,
            ⟨some 46, .ld false 1 (.t 45), some (40, false)⟩,
            ⟨some 47, .fad (.t 3) 1, some (40, false)⟩,
            ⟨some 48, .ld false 1 (.t 47), some (40, false)⟩,
            ⟨some 49, .mv (.t 5), some (40, false)⟩,
            ⟨some 50, .iad 2 (.t 48) (.t 49), some (40, false)⟩,
            ⟨some 51, .fad (.t 50) 1, some (40, false)⟩,
            ⟨some 52, .ld false 1 (.t 51), some (40, false)⟩,
            ⟨some 53, .call 209 [] [(.t 46), (.t 52)], some (40, false)⟩,
            ⟨some 54, .un .not (.t 53), some (40, false)⟩,
            ⟨some 55, .pick (.t 40) (.c (.v false (.bool true))) (.t 54), none⟩] (some []))
          (.cond (.t 55) (.seq (.reg [4] [] [
              ⟨some 4, .mv (.c (.v false (.bool false))), none⟩] none)
            (.ret))
           (.skip))))
        (.reg [2, 3, 5] [] [
          ⟨some 25, .mv (.t 5), none⟩,
          ⟨some 26, .bin .add (.t 25) (.c (.v false (.int .i64 1))), none⟩,
          ⟨some 5, .mv (.t 26), none⟩] none))

def pb199 : PC :=
.seq (.reg [2, 3] [] [
   ⟨some 2, .box 2 (.t 0), none⟩,
   ⟨some 3, .box 2 (.t 1), none⟩,
   ⟨some 4, .mv (.c (.v false (.bool false))), none⟩] none)
 (.seq (.seq (.reg [2, 3, 19] [] [
     ⟨some 6, .fad (.t 2) 0, none⟩,
     ⟨some 7, .ld false 1 (.t 6), none⟩,
     ⟨some 8, .fad (.t 3) 0, none⟩,
     ⟨some 9, .ld false 1 (.t 8), none⟩,
     ⟨some 10, .bin .neq (.t 7) (.t 9), none⟩,
     ⟨some 11, .mv (.t 10), none⟩,
     ⟨some 12, .fad (.t 2) 1, some (11, false)⟩,
     ⟨some 13, .ld false 1 (.t 12), some (11, false)⟩,
     ⟨some 14, .len (.t 13), some (11, false)⟩,
     ⟨some 15, .fad (.t 3) 1, some (11, false)⟩,
     ⟨some 16, .ld false 1 (.t 15), some (11, false)⟩,
     ⟨some 17, .len (.t 16), some (11, false)⟩,
     ⟨some 18, .bin .neq (.t 14) (.t 17), some (11, false)⟩,
     ⟨some 19, .pick (.t 11) (.c (.v false (.bool true))) (.t 18), none⟩] none)
   (.cond (.t 19) (.seq (.reg [4] [] [
       ⟨some 4, .mv (.c (.v false (.bool false))), none⟩] none)
     (.ret))
    (.skip)))
  (.seq (.seq (.reg [2, 3, 5] [] [
      ⟨some 5, .mv (.c (.v false (.int .i64 0))), none⟩] none)
    (.blk 0 (.loop pl199_0)))
   (.seq (.reg [4] [] [
      ⟨some 4, .mv (.c (.v false (.bool true))), none⟩] none)
    (.ret))))

def pf199 : PF := ⟨[.s 4], [], pb199⟩

-- loop.example/g00496/laws.sameRows
def pl208_0 : PC :=
.seq (.seq (.reg [0, 1, 5, 14] [] [
          ⟨some 11, .mv (.t 5), none⟩,
          ⟨some 12, .mv (.t 0), none⟩,
          ⟨some 13, .len (.t 12), none⟩,
          ⟨some 14, .bin .lss (.t 11) (.t 13), none⟩] none)
        (.cond (.t 14) (.skip)
         (.exit 0)))
       (.seq (.blk 1 (.seq (.reg [0, 1, 5, 41] [] [
            ⟨some 17, .mv (.t 0), none⟩,
            ⟨some 18, .mv (.t 5), none⟩,
            ⟨some 19, .iad 2 (.t 17) (.t 18), none⟩,
            ⟨some 20, .fad (.t 19) 0, none⟩,
            ⟨some 21, .ld false 1 (.t 20), none⟩,
            ⟨some 22, .mv (.t 1), none⟩,
            ⟨some 23, .mv (.t 5), none⟩,
            ⟨some 24, .iad 2 (.t 22) (.t 23), none⟩,
            ⟨some 25, .fad (.t 24) 0, none⟩,
            ⟨some 26, .ld false 1 (.t 25), none⟩,
            ⟨some 27, .bin .neq (.t 21) (.t 26), none⟩,
            ⟨some 28, .mv (.t 27), none⟩,
            ⟨some 29, .mv (.t 0), some (28, false)⟩,
            ⟨some 30, .mv (.t 5), some (28, false)⟩,
            ⟨some 31, .iad 2 (.t 29) (.t 30), some (28, false)⟩,
            ⟨some 32, .fad (.t 31) 1, some (28, false)⟩,
            ⟨some 33, .ld false 1 (.t 32), some (28, false)⟩,
            ⟨some 34, .mv (.t 1), some (28, false)⟩,
            ⟨some 35, .mv (.t 5), some (28, false)⟩,
            ⟨some 36, .iad 2 (.t 34) (.t 35), some (28, false)⟩,
            ⟨some 37, .fad (.t 36) 1, some (28, false)⟩,
            ⟨some 38, .ld false 1 (.t 37), some (28, false)⟩,
            ⟨some 39, .call 209 [] [(.t 33), (.t 38)], some (28, false)⟩,
            ⟨some 40, .un .not (.t 39), some (28, false)⟩,
            ⟨some 41, .pick (.t 28) (.c (.v false (.bool true))) (.t 40), none⟩] (some []))
          (.cond (.t 41) (.seq (.reg [4] [] [
              ⟨some 4, .mv (.c (.v false (.bool false))), none⟩] none)
            (.ret))
           (.skip))))
        (.reg [0, 1, 5] [] [
          ⟨some 15, .mv (.t 5), none⟩,
          ⟨some 16, .bin .add (.t 15) (.c (.v false (.int .i64 1))), none⟩,
          ⟨some 5, .mv (.t 16), none⟩] none))

def pb208 : PC :=
.seq (.reg [0, 1] [] [
   ⟨some 4, .mv (.c (.v false (.bool false))), none⟩] none)
 (.seq (.seq (.reg [0, 1, 10] [] [
     ⟨some 6, .mv (.t 0), none⟩,
     ⟨some 7, .len (.t 6), none⟩,
     ⟨some 8, .mv (.t 1), none⟩,
     ⟨some 9, .len (.t 8), none⟩,
     ⟨some 10, .bin .neq (.t 7) (.t 9), none⟩] none)
   (.cond (.t 10) (.seq (.reg [4] [] [
       ⟨some 4, .mv (.c (.v false (.bool false))), none⟩] none)
     (.ret))
    (.skip)))
  (.seq (.seq (.reg [0, 1, 5] [] [
      ⟨some 5, .mv (.c (.v false (.int .i64 0))), none⟩] none)
    (.blk 0 (.loop pl208_0)))
   (.seq (.reg [4] [] [
      ⟨some 4, .mv (.c (.v false (.bool true))), none⟩] none)
    (.ret))))

def pf208 : PF := ⟨[.s 4], [], pb208⟩

-- loop.example/g00496/laws.sameVals
def pl209_0 : PC :=
.seq (.seq (.reg [0, 1, 5, 14] [] [
          ⟨some 11, .mv (.t 5), none⟩,
          ⟨some 12, .mv (.t 0), none⟩,
          ⟨some 13, .len (.t 12), none⟩,
          ⟨some 14, .bin .lss (.t 11) (.t 13), none⟩] none)
        (.cond (.t 14) (.skip)
         (.exit 0)))
       (.seq (.blk 1 (.seq (.reg [0, 1, 5, 25] [] [
            ⟨some 17, .mv (.t 0), none⟩,
            ⟨some 18, .mv (.t 5), none⟩,
            ⟨some 19, .iad 3 (.t 17) (.t 18), none⟩,
            ⟨some 20, .ld true 3 (.t 19), none⟩,
            ⟨some 21, .mv (.t 1), none⟩,
            ⟨some 22, .mv (.t 5), none⟩,
            ⟨some 23, .iad 3 (.t 21) (.t 22), none⟩,
            ⟨some 24, .ld true 3 (.t 23), none⟩,
            ⟨some 25, .eqs true [0, 0, 2] (.t 20) (.t 24), none⟩] (some []))
          (.cond (.t 25) (.seq (.reg [4] [] [
              ⟨some 4, .mv (.c (.v false (.bool false))), none⟩] none)
            (.ret))
           (.skip))))
        (.reg [0, 1, 5] [] [
          ⟨some 15, .mv (.t 5), none⟩,
          ⟨some 16, .bin .add (.t 15) (.c (.v false (.int .i64 1))), none⟩,
          ⟨some 5, .mv (.t 16), none⟩] none))

def pb209 : PC :=
.seq (.reg [0, 1] [] [
   ⟨some 4, .mv (.c (.v false (.bool false))), none⟩] none)
 (.seq (.seq (.reg [0, 1, 10] [] [
     ⟨some 6, .mv (.t 0), none⟩,
     ⟨some 7, .len (.t 6), none⟩,
     ⟨some 8, .mv (.t 1), none⟩,
     ⟨some 9, .len (.t 8), none⟩,
     ⟨some 10, .bin .neq (.t 7) (.t 9), none⟩] none)
   (.cond (.t 10) (.seq (.reg [4] [] [
       ⟨some 4, .mv (.c (.v false (.bool false))), none⟩] none)
     (.ret))
    (.skip)))
  (.seq (.seq (.reg [0, 1, 5] [] [
      ⟨some 5, .mv (.c (.v false (.int .i64 0))), none⟩] none)
    (.blk 0 (.loop pl209_0)))
   (.seq (.reg [4] [] [
      ⟨some 4, .mv (.c (.v false (.bool true))), none⟩] none)
    (.ret))))

def pf209 : PF := ⟨[.s 4], [], pb209⟩

-- loop.example/g00496/spec.Came
def pb263 : PC :=
.seq (.reg [0, 1] [] [
   ⟨some 4, .mv (.c (.v false (.bool false))), none⟩] none)
 (.seq (.reg [4] [(7, 4)] [
    ⟨some 5, .mv (.t 0), none⟩,
    ⟨some 6, .mv (.t 1), none⟩,
    ⟨some 7, .call 377 [] [(.t 5), (.c (.v false (.int .i64 1))), (.t 6)], none⟩,
    ⟨some 4, .mv (.t 7), none⟩] none)
  (.ret))

def pf263 : PF := ⟨[.s 4], [], pb263⟩

-- loop.example/g00496/spec.CellOk
def pb264 : PC :=
.seq (.reg [0] [] [
   ⟨some 2, .mv (.c (.v false (.bool false))), none⟩] none)
 (.seq (.reg [2] [] [
    ⟨some 3, .mv (.t 0), none⟩,
    ⟨some 4, .bin .geq (.t 3) (.c (.v false (.int .i64 (-1)))), none⟩,
    ⟨some 2, .mv (.t 4), none⟩] none)
  (.ret))

def pf264 : PF := ⟨[.s 2], [], pb264⟩

-- loop.example/g00496/spec.ChunkNew
def pl265_0 : PC :=
.seq (.seq (.reg [0, 2, 3, 4, 11] [] [
           ⟨some 9, .mv (.t 4), none⟩,
           ⟨some 10, .mv (.t 0), none⟩,
           ⟨some 11, .bin .lss (.t 9) (.t 10), none⟩] none)
         (.cond (.t 11) (.skip)
          (.exit 0)))
        (.seq (.blk 1 (.reg [0, 2, 3, 4] [] [
            ⟨some 14, .fad (.t 3) 1, none⟩,
            ⟨some 15, .ld false 1 (.t 14), none⟩,
            ⟨some 16, .build [(.v false (.int .i64 0)), (.nl 3)] [], none⟩,
            ⟨some 17, .bsl 2 [.int .i64 0, .sl 3 []] 1 [(0, (.t 16))], none⟩,
            ⟨some 18, .app 2 32 (.t 15) (.t 17), none⟩,
            ⟨some 19, .fad (.t 3) 1, none⟩,
            ⟨none, .st 1 (.t 19) (.t 18), none⟩] none))
         (.reg [0, 2, 3, 4] [] [
           ⟨some 12, .mv (.t 4), none⟩,
           ⟨some 13, .bin .add (.t 12) (.c (.v false (.int .i64 1))), none⟩,
           ⟨some 4, .mv (.t 13), none⟩] none))

def pb265 : PC :=
.seq (.reg [0, 2] [] [
   ⟨some 2, .alloc [(.v false (.int .i64 0)), (.nl 2)], none⟩] none)
 (.seq (.seq (.reg [0, 2, 7] [] [
     ⟨some 5, .mv (.t 0), none⟩,
     ⟨some 6, .call 377 [] [(.t 5), (.c (.v false (.int .i64 1))), (.c (.v false (.int .i64 4)))], none⟩,
     ⟨some 7, .un .not (.t 6), none⟩] none)
   (.cond (.t 7) (.reg [0, 2] [] [
      ⟨some 0, .mv (.c (.v false (.int .i64 1))), none⟩] none)
    (.skip)))
  (.seq (.reg [0, 2, 3] [] [
     ⟨some 8, .build [(.v false (.int .i64 0)), (.nl 2)] [], none⟩,
     ⟨some 3, .alloc [(.v false (.int .i64 0)), (.nl 2)], none⟩,
     ⟨none, .st 2 (.t 3) (.t 8), none⟩] none)
   (.seq (.seq (.reg [0, 2, 3, 4] [] [
       ⟨some 4, .mv (.c (.v false (.int .i64 0))), none⟩] none)
     (.blk 0 (.loop pl265_0)))
    (.seq (.reg [2] [] [
       ⟨some 20, .ld true 2 (.t 3), none⟩,
       ⟨none, .st 2 (.t 2) (.t 20), none⟩] none)
     (.ret)))))

def pf265 : PF := ⟨[.b 2 2 true], [], pb265⟩

-- loop.example/g00496/spec.ChunkOk
def pl266_0 : PC :=
.seq (.seq (.reg [0, 3, 5, 11] [] [
         ⟨some 7, .mv (.t 5), none⟩,
         ⟨some 8, .fad (.t 3) 1, none⟩,
         ⟨some 9, .ld false 1 (.t 8), none⟩,
         ⟨some 10, .len (.t 9), none⟩,
         ⟨some 11, .bin .lss (.t 7) (.t 10), none⟩] none)
       (.cond (.t 11) (.skip)
        (.exit 0)))
      (.seq (.blk 1 (.seq (.reg [0, 3, 5, 6] [] [
           ⟨some 14, .fad (.t 3) 1, none⟩,
           ⟨some 15, .ld false 1 (.t 14), none⟩,
           ⟨some 16, .mv (.t 5), none⟩,
           ⟨some 17, .iad 2 (.t 15) (.t 16), none⟩,
           ⟨some 18, .ld true 2 (.t 17), none⟩,
           ⟨some 6, .alloc [(.v false (.int .i64 0)), (.nl 3)], none⟩,
           ⟨none, .st 2 (.t 6) (.t 18), none⟩] none)
         (.seq (.reg [0, 3, 5, 51] [] [
            ⟨some 19, .fad (.t 6) 0, none⟩,
            ⟨some 20, .ld false 1 (.t 19), none⟩,
            ⟨some 21, .call 264 [] [(.t 20)], none⟩,
            ⟨some 22, .un .not (.t 21), none⟩,
            ⟨some 23, .mv (.t 22), none⟩,
            ⟨some 24, .fad (.t 6) 0, some (23, false)⟩,
            ⟨some 25, .ld false 1 (.t 24), some (23, false)⟩,
            ⟨some 26, .bin .eql (.t 25) (.c (.v false (.int .i64 0))), some (23, false)⟩,
            ⟨some 27, .mv (.t 26), some (23, false)⟩,
            ⟨some 28, .fad (.t 6) 1, some (27, true)⟩,
            ⟨some 29, .ld false 1 (.t 28), some (27, true)⟩,
            ⟨some 30, .len (.t 29), some (27, true)⟩,
            ⟨some 31, .bin .gtr (.t 30) (.c (.v false (.int .i64 0))), some (27, true)⟩,
            ⟨some 32, .pick (.t 27) (.t 31) (.c (.v false (.bool false))), some (23, false)⟩,
            ⟨some 33, .pick (.t 23) (.c (.v false (.bool true))) (.t 32), none⟩,
            ⟨some 34, .mv (.t 33), none⟩,
            ⟨some 35, .fad (.t 6) 0, some (34, false)⟩,
            ⟨some 36, .ld false 1 (.t 35), some (34, false)⟩,
            ⟨some 37, .bin .neq (.t 36) (.c (.v false (.int .i64 0))), some (34, false)⟩,
            ⟨some 38, .mv (.t 37), some (34, false)⟩,
            ⟨some 39, .mv (.t 5), some (38, true)⟩,
            ⟨some 40, .fad (.t 3) 0, some (38, true)⟩,
            ⟨some 41, .ld false 1 (.t 40), some (38, true)⟩,
            ⟨some 42, .bin .geq (.t 39) (.t 41), some (38, true)⟩,
            ⟨some 43, .mv (.t 42), some (38, true)⟩,
            ⟨some 44, .mv (.t 0), some (43, false)⟩,
            ⟨some 45, .fad (.t 6) 1, some (43, false)⟩,
            ⟨some 46, .ld false 1 (.t 45), some (43, false)⟩,
            ⟨some 47, .call 298 [] [(.t 44), (.t 46)], some (43, false)⟩,
            ⟨some 48, .un .not (.t 47), some (43, false)⟩,
            ⟨some 49, .pick (.t 43) (.c (.v false (.bool true))) (.t 48), some (38, true)⟩,
            ⟨some 50, .pick (.t 38) (.t 49) (.c (.v false (.bool false))), some (34, false)⟩,
            ⟨some 51, .pick (.t 34) (.c (.v false (.bool true))) (.t 50), none⟩] none)
          (.cond (.t 51) (.seq (.reg [4] [] [
              ⟨some 4, .mv (.c (.v false (.bool false))), none⟩] none)
            (.ret))
           (.skip)))))
       (.reg [0, 3, 5] [] [
         ⟨some 12, .mv (.t 5), none⟩,
         ⟨some 13, .bin .add (.t 12) (.c (.v false (.int .i64 1))), none⟩,
         ⟨some 5, .mv (.t 13), none⟩] none))

def pb266 : PC :=
.seq (.reg [0, 3] [] [
   ⟨some 3, .box 2 (.t 1), none⟩,
   ⟨some 4, .mv (.c (.v false (.bool false))), none⟩] none)
 (.seq (.seq (.reg [0, 3, 5] [] [
     ⟨some 5, .mv (.c (.v false (.int .i64 0))), none⟩] none)
   (.blk 0 (.loop pl266_0)))
  (.seq (.reg [4, 62] [(55, 4)] [
     ⟨some 52, .fad (.t 3) 1, none⟩,
     ⟨some 53, .ld false 1 (.t 52), none⟩,
     ⟨some 54, .len (.t 53), none⟩,
     ⟨some 55, .call 377 [] [(.t 54), (.c (.v false (.int .i64 1))), (.c (.v false (.int .i64 4)))], none⟩,
     ⟨some 56, .mv (.t 55), none⟩,
     ⟨some 57, .fad (.t 3) 0, some (56, true)⟩,
     ⟨some 58, .ld false 1 (.t 57), some (56, true)⟩,
     ⟨some 59, .fad (.t 3) 1, some (56, true)⟩,
     ⟨some 60, .ld false 1 (.t 59), some (56, true)⟩,
     ⟨some 61, .len (.t 60), some (56, true)⟩,
     ⟨some 62, .call 377 [] [(.t 58), (.c (.v false (.int .i64 0))), (.t 61)], some (56, true)⟩,
     ⟨some 63, .pick (.t 56) (.t 62) (.c (.v false (.bool false))), none⟩,
     ⟨some 4, .mv (.t 63), none⟩] none)
   (.ret)))

def pf266 : PF := ⟨[.s 4], [], pb266⟩

-- loop.example/g00496/spec.DrawChunkNew
def pb274 : PC :=
.seq (.reg [0] [] [
   ⟨some 2, .mv (.c (.v false (.int .i64 0))), none⟩] none)
 (.seq (.reg [3] [(5, 3)] [
    ⟨some 4, .mv (.t 0), none⟩,
    ⟨some 5, .call 379 [] [(.t 4)], none⟩,
    ⟨some 3, .mv (.t 5), none⟩] none)
  (.seq (.reg [2] [] [
     ⟨some 6, .mv (.t 3), none⟩,
     ⟨some 7, .call 375 [0] [(.t 6), (.c (.v false (.int .i64 8)))], none⟩,
     ⟨some 8, .bin .sub (.t 7) (.c (.v false (.int .i64 1))), none⟩,
     ⟨some 2, .mv (.t 8), none⟩] none)
   (.ret)))

def pf274 : PF := ⟨[.s 2], [], pb274⟩

-- loop.example/g00496/spec.DrawChunkOk
def pb275 : PC :=
.seq (.reg [0, 3] [] [
   ⟨some 2, .mv (.c (.nl 1)), none⟩,
   ⟨some 3, .alloc [(.v false (.int .i64 0)), (.nl 2)], none⟩] none)
 (.seq (.reg [3, 4] [(7, 4)] [
    ⟨some 6, .mv (.t 0), none⟩,
    ⟨some 7, .call 379 [] [(.t 6)], none⟩,
    ⟨some 4, .mv (.t 7), none⟩] none)
  (.seq (.reg [3, 4, 5] [(9, 5)] [
     ⟨some 8, .mv (.t 4), none⟩,
     ⟨some 9, .call 399 [0] [(.t 8)], none⟩,
     ⟨some 5, .mv (.t 9), none⟩] none)
   (.seq (.reg [2, 3, 5] [] [
      ⟨some 10, .mv (.t 5), none⟩,
      ⟨some 11, .mv (.t 4), none⟩,
      ⟨some 12, .mv (.t 5), none⟩,
      ⟨some 13, .call 358 [0] [(.t 11), (.t 12)], none⟩,
      ⟨some 2, .mv (.t 10), none⟩,
      ⟨none, .st 2 (.t 3) (.t 13), none⟩] none)
    (.ret))))

def pf275 : PF := ⟨[.s 2, .b 3 2 true], [], pb275⟩

-- loop.example/g00496/spec.DrawRowsOf
def pb288 : PC :=
.seq (.reg [0, 2] [] [
   ⟨some 2, .alloc [(.v false (.int .i64 0)), (.nl 2)], none⟩,
   ⟨some 3, .mv (.c (.v false (.int .i64 0))), none⟩,
   ⟨some 4, .mv (.c (.v false (.int .i64 0))), none⟩] none)
 (.seq (.reg [2, 5] [(7, 5)] [
    ⟨some 6, .mv (.t 0), none⟩,
    ⟨some 7, .call 379 [] [(.t 6)], none⟩,
    ⟨some 5, .mv (.t 7), none⟩] none)
  (.seq (.reg [2, 3, 4] [(13, 3)] [
     ⟨some 8, .mv (.t 5), none⟩,
     ⟨some 9, .mv (.t 5), none⟩,
     ⟨some 10, .call 399 [0] [(.t 9)], none⟩,
     ⟨some 11, .call 358 [0] [(.t 8), (.t 10)], none⟩,
     ⟨some 12, .mv (.t 5), none⟩,
     ⟨some 13, .call 375 [0] [(.t 12), (.c (.v false (.int .i64 20)))], none⟩,
     ⟨some 14, .mv (.t 5), none⟩,
     ⟨some 15, .call 375 [0] [(.t 14), (.c (.v false (.int .i64 8)))], none⟩,
     ⟨some 16, .bin .sub (.t 15) (.c (.v false (.int .i64 1))), none⟩,
     ⟨none, .st 2 (.t 2) (.t 11), none⟩,
     ⟨some 3, .mv (.t 13), none⟩,
     ⟨some 4, .mv (.t 16), none⟩] none)
   (.ret)))

def pf288 : PF := ⟨[.b 2 2 true, .s 3, .s 4], [], pb288⟩

-- loop.example/g00496/spec.DrawStampSlot
def pb290 : PC :=
.seq (.reg [0, 2] [] [
   ⟨some 2, .alloc [(.v false (.int .i64 0)), (.nl 2)], none⟩,
   ⟨some 3, .mv (.c (.v false (.int .i64 0))), none⟩,
   ⟨some 4, .mv (.c (.v false (.int .i64 0))), none⟩] none)
 (.seq (.reg [2, 5] [(7, 5)] [
    ⟨some 6, .mv (.t 0), none⟩,
    ⟨some 7, .call 379 [] [(.t 6)], none⟩,
    ⟨some 5, .mv (.t 7), none⟩] none)
  (.seq (.reg [2, 3, 4] [(16, 4)] [
     ⟨some 8, .mv (.t 5), none⟩,
     ⟨some 9, .mv (.t 5), none⟩,
     ⟨some 10, .call 399 [0] [(.t 9)], none⟩,
     ⟨some 11, .call 358 [0] [(.t 8), (.t 10)], none⟩,
     ⟨some 12, .mv (.t 5), none⟩,
     ⟨some 13, .call 375 [0] [(.t 12), (.c (.v false (.int .i64 6)))], none⟩,
     ⟨some 14, .bin .sub (.t 13) (.c (.v false (.int .i64 1))), none⟩,
     ⟨some 15, .mv (.t 5), none⟩,
     ⟨some 16, .call 375 [0] [(.t 15), (.c (.v false (.int .i64 6)))], none⟩,
     ⟨none, .st 2 (.t 2) (.t 11), none⟩,
     ⟨some 3, .mv (.t 14), none⟩,
     ⟨some 4, .mv (.t 16), none⟩] none)
   (.ret)))

def pf290 : PF := ⟨[.b 2 2 true, .s 3, .s 4], [], pb290⟩

-- loop.example/g00496/spec.DrawWhole
def pl293_0 : PC :=
.seq (.seq (.reg [2, 4, 5, 6, 7, 22] [] [
               ⟨some 18, .mv (.t 7), none⟩,
               ⟨some 19, .fad (.t 6) 1, none⟩,
               ⟨some 20, .ld false 1 (.t 19), none⟩,
               ⟨some 21, .len (.t 20), none⟩,
               ⟨some 22, .bin .lss (.t 18) (.t 21), none⟩] none)
             (.cond (.t 22) (.skip)
              (.exit 0)))
            (.seq (.blk 1 (.seq (.reg [2, 4, 5, 6, 7] [] [
                 ⟨some 26, .ld true 2 (.t 6), none⟩,
                 ⟨some 27, .call 323 [] [(.t 26)], none⟩,
                 ⟨some 25, .mv (.t 27), none⟩,
                 ⟨some 28, .ext (.t 25) 0, none⟩,
                 ⟨some 29, .ext (.t 25) 1, none⟩,
                 ⟨none, .st 2 (.t 6) (.t 28), none⟩] none)
               (.seq (.reg [2, 4, 5, 6, 7] [] [
                  ⟨some 31, .ld true 2 (.t 6), none⟩,
                  ⟨some 32, .mv (.t 7), none⟩,
                  ⟨some 33, .mv (.t 4), none⟩,
                  ⟨some 34, .mv (.t 5), none⟩,
                  ⟨some 35, .call 401 [0] [(.t 33), (.t 34)], none⟩,
                  ⟨some 36, .call 347 [] [(.t 31), (.t 32), (.t 35)], none⟩,
                  ⟨some 30, .mv (.t 36), none⟩,
                  ⟨some 37, .ext (.t 30) 0, none⟩,
                  ⟨some 38, .ext (.t 30) 1, none⟩,
                  ⟨none, .st 2 (.t 6) (.t 37), none⟩] (some [(0, 4)]))
                (.reg [2, 4, 5, 6, 7] [] [
                  ⟨some 40, .ld true 2 (.t 6), none⟩,
                  ⟨some 41, .mv (.t 7), none⟩,
                  ⟨some 42, .mv (.t 4), none⟩,
                  ⟨some 43, .call 375 [0] [(.t 42), (.c (.v false (.int .i64 4)))], none⟩,
                  ⟨some 44, .bin .add (.c (.v false (.int .i64 1))) (.t 43), none⟩,
                  ⟨some 45, .call 336 [] [(.t 40), (.t 41), (.t 44)], none⟩,
                  ⟨some 39, .mv (.t 45), none⟩,
                  ⟨some 46, .ext (.t 39) 0, none⟩,
                  ⟨some 47, .ext (.t 39) 1, none⟩,
                  ⟨none, .st 2 (.t 6) (.t 46), none⟩] (some [(0, 3)])))))
             (.reg [2, 4, 5, 6, 7] [] [
               ⟨some 23, .mv (.t 7), none⟩,
               ⟨some 24, .bin .add (.t 23) (.c (.v false (.int .i64 1))), none⟩,
               ⟨some 7, .mv (.t 24), none⟩] none))

def pb293 : PC :=
.seq (.reg [0, 2] [] [
   ⟨some 2, .alloc [(.v false (.int .i64 0)), (.nl 2)], none⟩,
   ⟨some 3, .mv (.c (.v false (.int .i64 0))), none⟩] none)
 (.seq (.reg [2, 4] [(9, 4)] [
    ⟨some 8, .mv (.t 0), none⟩,
    ⟨some 9, .call 379 [] [(.t 8)], none⟩,
    ⟨some 4, .mv (.t 9), none⟩] none)
  (.seq (.reg [2, 4, 5] [(11, 5)] [
     ⟨some 10, .mv (.t 4), none⟩,
     ⟨some 11, .call 399 [0] [(.t 10)], none⟩,
     ⟨some 5, .mv (.t 11), none⟩] none)
   (.seq (.seq (.reg [2, 4, 5, 13] [] [
       ⟨some 12, .mv (.t 4), none⟩,
       ⟨some 13, .call 382 [0] [(.t 12), (.c (.v false (.int .i64 2)))], none⟩] none)
     (.cond (.t 13) (.seq (.reg [2, 4, 5, 6] [] [
         ⟨some 14, .mv (.t 4), none⟩,
         ⟨some 15, .call 375 [0] [(.t 14), (.c (.v false (.int .i64 4)))], none⟩,
         ⟨some 16, .bin .add (.c (.v false (.int .i64 1))) (.t 15), none⟩,
         ⟨some 17, .call 265 [] [(.t 16)], none⟩,
         ⟨some 6, .alloc [(.v false (.int .i64 0)), (.nl 2)], none⟩,
         ⟨none, .st 2 (.t 6) (.t 17), none⟩] none)
       (.seq (.seq (.reg [2, 4, 5, 6, 7] [] [
           ⟨some 7, .mv (.c (.v false (.int .i64 0))), none⟩] none)
         (.blk 0 (.loop pl293_0)))
        (.seq (.reg [2, 3] [(50, 3)] [
           ⟨some 48, .ld true 2 (.t 6), none⟩,
           ⟨some 49, .mv (.t 4), none⟩,
           ⟨some 50, .call 375 [0] [(.t 49), (.c (.v false (.int .i64 6)))], none⟩,
           ⟨none, .st 2 (.t 2) (.t 48), none⟩,
           ⟨some 3, .mv (.t 50), none⟩] (some [(0, 2)]))
         (.ret))))
      (.skip)))
    (.seq (.reg [2, 3] [(55, 3)] [
       ⟨some 51, .mv (.t 4), none⟩,
       ⟨some 52, .mv (.t 5), none⟩,
       ⟨some 53, .call 358 [0] [(.t 51), (.t 52)], none⟩,
       ⟨some 54, .mv (.t 4), none⟩,
       ⟨some 55, .call 375 [0] [(.t 54), (.c (.v false (.int .i64 8)))], none⟩,
       ⟨none, .st 2 (.t 2) (.t 53), none⟩,
       ⟨some 3, .mv (.t 55), none⟩] none)
     (.ret)))))

def pf293 : PF := ⟨[.b 2 2 true, .s 3], [], pb293⟩

-- loop.example/g00496/spec.FitsCols
def pl298_0 : PC :=
.seq (.seq (.reg [0, 1, 5, 14] [] [
          ⟨some 11, .mv (.t 5), none⟩,
          ⟨some 12, .mv (.t 1), none⟩,
          ⟨some 13, .len (.t 12), none⟩,
          ⟨some 14, .bin .lss (.t 11) (.t 13), none⟩] none)
        (.cond (.t 14) (.skip)
         (.exit 0)))
       (.seq (.blk 1 (.seq (.reg [0, 1, 5, 34] [] [
            ⟨some 17, .mv (.t 1), none⟩,
            ⟨some 18, .mv (.t 5), none⟩,
            ⟨some 19, .iad 3 (.t 17) (.t 18), none⟩,
            ⟨some 20, .ld true 3 (.t 19), none⟩,
            ⟨some 21, .call 341 [] [(.t 20)], none⟩,
            ⟨some 22, .un .not (.t 21), none⟩,
            ⟨some 23, .mv (.t 22), none⟩,
            ⟨some 24, .mv (.t 1), some (23, false)⟩,
            ⟨some 25, .mv (.t 5), some (23, false)⟩,
            ⟨some 26, .iad 3 (.t 24) (.t 25), some (23, false)⟩,
            ⟨some 27, .fad (.t 26) 0, some (23, false)⟩,
            ⟨some 28, .ld false 1 (.t 27), some (23, false)⟩,
            ⟨some 29, .mv (.t 0), some (23, false)⟩,
            ⟨some 30, .mv (.t 5), some (23, false)⟩,
            ⟨some 31, .iad 1 (.t 29) (.t 30), some (23, false)⟩,
            ⟨some 32, .ld false 1 (.t 31), some (23, false)⟩,
            ⟨some 33, .bin .neq (.t 28) (.t 32), some (23, false)⟩,
            ⟨some 34, .pick (.t 23) (.c (.v false (.bool true))) (.t 33), none⟩] (some []))
          (.cond (.t 34) (.seq (.reg [4] [] [
              ⟨some 4, .mv (.c (.v false (.bool false))), none⟩] none)
            (.ret))
           (.skip))))
        (.reg [0, 1, 5] [] [
          ⟨some 15, .mv (.t 5), none⟩,
          ⟨some 16, .bin .add (.t 15) (.c (.v false (.int .i64 1))), none⟩,
          ⟨some 5, .mv (.t 16), none⟩] none))

def pb298 : PC :=
.seq (.reg [0, 1] [] [
   ⟨some 4, .mv (.c (.v false (.bool false))), none⟩] none)
 (.seq (.seq (.reg [0, 1, 10] [] [
     ⟨some 6, .mv (.t 0), none⟩,
     ⟨some 7, .len (.t 6), none⟩,
     ⟨some 8, .mv (.t 1), none⟩,
     ⟨some 9, .len (.t 8), none⟩,
     ⟨some 10, .bin .neq (.t 7) (.t 9), none⟩] none)
   (.cond (.t 10) (.seq (.reg [4] [] [
       ⟨some 4, .mv (.c (.v false (.bool false))), none⟩] none)
     (.ret))
    (.skip)))
  (.seq (.seq (.reg [0, 1, 5] [] [
      ⟨some 5, .mv (.c (.v false (.int .i64 0))), none⟩] none)
    (.blk 0 (.loop pl298_0)))
   (.seq (.reg [4] [] [
      ⟨some 4, .mv (.c (.v false (.bool true))), none⟩] none)
    (.ret))))

def pf298 : PF := ⟨[.s 4], [], pb298⟩

-- loop.example/g00496/spec.Reserve
def pb323 : PC :=
.seq (.reg [1, 2] [] [
   ⟨some 1, .box 2 (.t 0), none⟩,
   ⟨some 2, .alloc [(.v false (.int .i64 0)), (.nl 2)], none⟩,
   ⟨some 3, .mv (.c (.v false (.int .i64 0))), none⟩] none)
 (.seq (.reg [1, 2, 4] [] [
    ⟨some 5, .ld true 2 (.t 1), none⟩,
    ⟨some 6, .call 359 [] [(.t 5)], none⟩,
    ⟨some 4, .alloc [(.v false (.int .i64 0)), (.nl 2)], none⟩,
    ⟨none, .st 2 (.t 4) (.t 6), none⟩] none)
  (.seq (.seq (.reg [1, 2, 4, 14] [] [
      ⟨some 7, .fad (.t 1) 0, none⟩,
      ⟨some 8, .ld false 1 (.t 7), none⟩,
      ⟨some 9, .fad (.t 1) 1, none⟩,
      ⟨some 10, .ld false 1 (.t 9), none⟩,
      ⟨some 11, .len (.t 10), none⟩,
      ⟨some 12, .bin .sub (.t 11) (.c (.v false (.int .i64 1))), none⟩,
      ⟨some 13, .call 377 [] [(.t 8), (.c (.v false (.int .i64 0))), (.t 12)], none⟩,
      ⟨some 14, .un .not (.t 13), none⟩] none)
    (.cond (.t 14) (.seq (.reg [2, 3] [] [
        ⟨some 15, .ld true 2 (.t 4), none⟩,
        ⟨none, .st 2 (.t 2) (.t 15), none⟩,
        ⟨some 3, .mv (.c (.v false (.int .i64 (-1)))), none⟩] none)
      (.ret))
     (.skip)))
   (.seq (.reg [1, 2, 4] [] [
      ⟨some 16, .fad (.t 1) 0, none⟩,
      ⟨some 17, .ld false 1 (.t 16), none⟩,
      ⟨some 18, .bin .add (.t 17) (.c (.v false (.int .i64 1))), none⟩,
      ⟨some 19, .fad (.t 4) 0, none⟩,
      ⟨none, .st 1 (.t 19) (.t 18), none⟩] none)
    (.seq (.reg [1, 2, 3] [] [
       ⟨some 20, .ld true 2 (.t 4), none⟩,
       ⟨some 21, .fad (.t 1) 0, none⟩,
       ⟨some 22, .ld false 1 (.t 21), none⟩,
       ⟨none, .st 2 (.t 2) (.t 20), none⟩,
       ⟨some 3, .mv (.t 22), none⟩] (some [(2, 3)]))
     (.ret)))))

def pf323 : PF := ⟨[.b 2 2 true, .s 3], [], pb323⟩

-- loop.example/g00496/spec.RowsOf
def pl325_0 : PC :=
.seq (.seq (.reg [1, 2, 3, 7, 8, 14] [] [
          ⟨some 10, .mv (.t 8), none⟩,
          ⟨some 11, .fad (.t 3) 1, none⟩,
          ⟨some 12, .ld false 1 (.t 11), none⟩,
          ⟨some 13, .len (.t 12), none⟩,
          ⟨some 14, .bin .lss (.t 10) (.t 13), none⟩] none)
        (.cond (.t 14) (.skip)
         (.exit 0)))
       (.seq (.blk 1 (.seq (.reg [1, 2, 3, 7, 8, 24] [] [
            ⟨some 17, .fad (.t 3) 1, none⟩,
            ⟨some 18, .ld false 1 (.t 17), none⟩,
            ⟨some 19, .mv (.t 8), none⟩,
            ⟨some 20, .iad 2 (.t 18) (.t 19), none⟩,
            ⟨some 21, .fad (.t 20) 0, none⟩,
            ⟨some 22, .ld false 1 (.t 21), none⟩,
            ⟨some 23, .mv (.t 2), none⟩,
            ⟨some 24, .call 263 [] [(.t 22), (.t 23)], none⟩] none)
          (.cond (.t 24) (.reg [1, 2, 3, 7, 8] [(39, 7)] [
             ⟨some 25, .mv (.t 7), none⟩,
             ⟨some 26, .mv (.t 1), none⟩,
             ⟨some 27, .mv (.t 8), none⟩,
             ⟨some 28, .bin .add (.t 26) (.t 27), none⟩,
             ⟨some 29, .bsl 3 [] 0 [], none⟩,
             ⟨some 30, .fad (.t 3) 1, none⟩,
             ⟨some 31, .ld false 1 (.t 30), none⟩,
             ⟨some 32, .mv (.t 8), none⟩,
             ⟨some 33, .iad 2 (.t 31) (.t 32), none⟩,
             ⟨some 34, .fad (.t 33) 1, none⟩,
             ⟨some 35, .ld false 1 (.t 34), none⟩,
             ⟨some 36, .app 3 32 (.t 29) (.t 35), none⟩,
             ⟨some 37, .build [(.v false (.int .i64 0)), (.nl 3)] [(0, 1, (.t 28)), (1, 1, (.t 36))], none⟩,
             ⟨some 38, .bsl 2 [.int .i64 0, .sl 3 []] 1 [(0, (.t 37))], none⟩,
             ⟨some 39, .app 2 32 (.t 25) (.t 38), none⟩,
             ⟨some 7, .mv (.t 39), none⟩] none)
           (.skip))))
        (.reg [1, 2, 3, 7, 8] [] [
          ⟨some 15, .mv (.t 8), none⟩,
          ⟨some 16, .bin .add (.t 15) (.c (.v false (.int .i64 1))), none⟩,
          ⟨some 8, .mv (.t 16), none⟩] none))

def pb325 : PC :=
.seq (.reg [1, 2, 3] [] [
   ⟨some 3, .box 2 (.t 0), none⟩,
   ⟨some 6, .mv (.c (.nl 2)), none⟩] none)
 (.seq (.reg [1, 2, 3, 7] [(9, 7)] [
    ⟨some 9, .bsl 2 [] 0 [], none⟩,
    ⟨some 7, .mv (.t 9), none⟩] none)
  (.seq (.seq (.reg [1, 2, 3, 7, 8] [] [
      ⟨some 8, .mv (.c (.v false (.int .i64 0))), none⟩] none)
    (.blk 0 (.loop pl325_0)))
   (.seq (.reg [6, 7] [] [
      ⟨some 40, .mv (.t 7), none⟩,
      ⟨some 6, .mv (.t 40), none⟩] none)
    (.ret))))

def pf325 : PF := ⟨[.s 6], [], pb325⟩

-- loop.example/g00496/spec.Stamp
def pb335 : PC :=
.seq (.reg [0, 1] [] [
   ⟨some 4, .mv (.c (.v false (.int .i64 0))), none⟩,
   ⟨some 5, .mv (.c (.v false (.bool false))), none⟩] none)
 (.seq (.seq (.reg [0, 1, 11] [] [
     ⟨some 6, .mv (.t 0), none⟩,
     ⟨some 7, .bin .neq (.t 6) (.c (.v false (.int .i64 (-1)))), none⟩,
     ⟨some 8, .mv (.t 7), none⟩,
     ⟨some 9, .mv (.t 1), some (8, false)⟩,
     ⟨some 10, .bin .lss (.t 9) (.c (.v false (.int .i64 1))), some (8, false)⟩,
     ⟨some 11, .pick (.t 8) (.c (.v false (.bool true))) (.t 10), none⟩] none)
   (.cond (.t 11) (.seq (.reg [4, 5] [] [
       ⟨some 12, .mv (.t 0), none⟩,
       ⟨some 4, .mv (.t 12), none⟩,
       ⟨some 5, .mv (.c (.v false (.bool false))), none⟩] none)
     (.ret))
    (.skip)))
  (.seq (.reg [4, 5] [] [
     ⟨some 13, .mv (.t 1), none⟩,
     ⟨some 4, .mv (.t 13), none⟩,
     ⟨some 5, .mv (.c (.v false (.bool true))), none⟩] none)
   (.ret)))

def pf335 : PF := ⟨[.s 4, .s 5], [], pb335⟩

-- loop.example/g00496/spec.StampSlot
def pb336 : PC :=
.seq (.reg [1, 2, 3, 6] [] [
   ⟨some 3, .box 2 (.t 0), none⟩,
   ⟨some 6, .alloc [(.v false (.int .i64 0)), (.nl 2)], none⟩,
   ⟨some 7, .mv (.c (.v false (.bool false))), none⟩] none)
 (.seq (.reg [1, 2, 3, 6, 8] [] [
    ⟨some 11, .ld true 2 (.t 3), none⟩,
    ⟨some 12, .call 359 [] [(.t 11)], none⟩,
    ⟨some 8, .alloc [(.v false (.int .i64 0)), (.nl 2)], none⟩,
    ⟨none, .st 2 (.t 8) (.t 12), none⟩] none)
  (.seq (.seq (.reg [1, 2, 3, 6, 8, 19] [] [
      ⟨some 13, .mv (.t 1), none⟩,
      ⟨some 14, .fad (.t 3) 1, none⟩,
      ⟨some 15, .ld false 1 (.t 14), none⟩,
      ⟨some 16, .len (.t 15), none⟩,
      ⟨some 17, .bin .sub (.t 16) (.c (.v false (.int .i64 1))), none⟩,
      ⟨some 18, .call 377 [] [(.t 13), (.c (.v false (.int .i64 0))), (.t 17)], none⟩,
      ⟨some 19, .un .not (.t 18), none⟩] none)
    (.cond (.t 19) (.seq (.reg [6, 7] [] [
        ⟨some 20, .ld true 2 (.t 8), none⟩,
        ⟨none, .st 2 (.t 6) (.t 20), none⟩,
        ⟨some 7, .mv (.c (.v false (.bool false))), none⟩] none)
      (.ret))
     (.skip)))
   (.seq (.reg [1, 6, 8, 9, 10] [(29, 9)] [
      ⟨some 22, .fad (.t 3) 1, none⟩,
      ⟨some 23, .ld false 1 (.t 22), none⟩,
      ⟨some 24, .mv (.t 1), none⟩,
      ⟨some 25, .iad 2 (.t 23) (.t 24), none⟩,
      ⟨some 26, .fad (.t 25) 0, none⟩,
      ⟨some 27, .ld false 1 (.t 26), none⟩,
      ⟨some 28, .mv (.t 2), none⟩,
      ⟨some 29, .call 335 [] [(.t 27), (.t 28)], none⟩,
      ⟨some 21, .mv (.t 29), none⟩,
      ⟨some 30, .ext (.t 21) 0, none⟩,
      ⟨some 31, .ext (.t 21) 1, none⟩,
      ⟨some 9, .mv (.t 30), none⟩,
      ⟨some 10, .mv (.t 31), none⟩] none)
    (.seq (.reg [6, 8, 9, 10] [] [
       ⟨some 32, .fad (.t 8) 1, none⟩,
       ⟨some 33, .ld false 1 (.t 32), none⟩,
       ⟨some 34, .mv (.t 1), none⟩,
       ⟨some 35, .mv (.t 9), none⟩,
       ⟨some 36, .iad 2 (.t 33) (.t 34), none⟩,
       ⟨some 37, .fad (.t 36) 0, none⟩,
       ⟨none, .st 1 (.t 37) (.t 35), none⟩] none)
     (.seq (.reg [6, 7, 9] [] [
        ⟨some 38, .ld true 2 (.t 8), none⟩,
        ⟨some 39, .mv (.t 10), none⟩,
        ⟨none, .st 2 (.t 6) (.t 38), none⟩,
        ⟨some 7, .mv (.t 39), none⟩] none)
      (.ret))))))

def pf336 : PF := ⟨[.b 6 2 true, .s 7], [], pb336⟩

-- loop.example/g00496/spec.ValOk
def pl341_0 : PC :=
.seq (.seq (.reg [1, 3, 23] [] [
          ⟨some 15, .mv (.t 3), none⟩,
          ⟨some 16, .fad (.t 1) 2, none⟩,
          ⟨some 17, .ld false 1 (.t 16), none⟩,
          ⟨some 18, .lens (.t 17), none⟩,
          ⟨some 19, .bin .lss (.t 15) (.t 18), none⟩,
          ⟨some 20, .mv (.t 19), none⟩,
          ⟨some 21, .mv (.t 3), some (20, true)⟩,
          ⟨some 22, .bin .leq (.t 21) (.c (.v false (.int .i64 6))), some (20, true)⟩,
          ⟨some 23, .pick (.t 20) (.t 22) (.c (.v false (.bool false))), none⟩] none)
        (.cond (.t 23) (.skip)
         (.exit 0)))
       (.seq (.blk 1 (.seq (.reg [1, 3, 41] [] [
            ⟨some 26, .fad (.t 1) 2, none⟩,
            ⟨some 27, .ld false 1 (.t 26), none⟩,
            ⟨some 28, .mv (.t 3), none⟩,
            ⟨some 29, .idx (.t 27) (.t 28), none⟩,
            ⟨some 30, .cvi .i64 (.t 29), none⟩,
            ⟨some 31, .call 377 [] [(.t 30), (.c (.v false (.int .i64 97))), (.c (.v false (.int .i64 122)))], none⟩,
            ⟨some 32, .un .not (.t 31), none⟩,
            ⟨some 33, .mv (.t 32), none⟩,
            ⟨some 34, .fad (.t 1) 2, some (33, true)⟩,
            ⟨some 35, .ld false 1 (.t 34), some (33, true)⟩,
            ⟨some 36, .mv (.t 3), some (33, true)⟩,
            ⟨some 37, .idx (.t 35) (.t 36), some (33, true)⟩,
            ⟨some 38, .cvi .i64 (.t 37), some (33, true)⟩,
            ⟨some 39, .call 377 [] [(.t 38), (.c (.v false (.int .i64 48))), (.c (.v false (.int .i64 57)))], some (33, true)⟩,
            ⟨some 40, .un .not (.t 39), some (33, true)⟩,
            ⟨some 41, .pick (.t 33) (.t 40) (.c (.v false (.bool false))), none⟩] none)
          (.cond (.t 41) (.seq (.reg [2] [] [
              ⟨some 2, .mv (.c (.v false (.bool false))), none⟩] none)
            (.ret))
           (.skip))))
        (.reg [1, 3] [] [
          ⟨some 24, .mv (.t 3), none⟩,
          ⟨some 25, .bin .add (.t 24) (.c (.v false (.int .i64 1))), none⟩,
          ⟨some 3, .mv (.t 25), none⟩] none))

def pb341 : PC :=
.seq (.reg [1] [] [
   ⟨some 1, .box 3 (.t 0), none⟩,
   ⟨some 2, .mv (.c (.v false (.bool false))), none⟩] none)
 (.seq (.seq (.reg [1, 6] [] [
     ⟨some 4, .fad (.t 1) 0, none⟩,
     ⟨some 5, .ld false 1 (.t 4), none⟩,
     ⟨some 6, .bin .eql (.t 5) (.c (.v false (.int .i64 1))), none⟩] none)
   (.cond (.t 6) (.seq (.reg [2] [(9, 2)] [
       ⟨some 7, .fad (.t 1) 1, none⟩,
       ⟨some 8, .ld false 1 (.t 7), none⟩,
       ⟨some 9, .call 384 [] [(.t 8)], none⟩,
       ⟨some 10, .mv (.t 9), none⟩,
       ⟨some 11, .fad (.t 1) 2, some (10, true)⟩,
       ⟨some 12, .ld false 1 (.t 11), some (10, true)⟩,
       ⟨some 13, .bin .eql (.t 12) (.c (.v false (.str ⟨#[]⟩))), some (10, true)⟩,
       ⟨some 14, .pick (.t 10) (.t 13) (.c (.v false (.bool false))), none⟩,
       ⟨some 2, .mv (.t 14), none⟩] none)
     (.ret))
    (.skip)))
  (.seq (.seq (.reg [1, 3] [] [
      ⟨some 3, .mv (.c (.v false (.int .i64 0))), none⟩] none)
    (.blk 0 (.loop pl341_0)))
   (.seq (.reg [2] [] [
      ⟨some 42, .fad (.t 1) 0, none⟩,
      ⟨some 43, .ld false 1 (.t 42), none⟩,
      ⟨some 44, .bin .eql (.t 43) (.c (.v false (.int .i64 2))), none⟩,
      ⟨some 45, .mv (.t 44), none⟩,
      ⟨some 46, .fad (.t 1) 1, some (45, true)⟩,
      ⟨some 47, .ld false 1 (.t 46), some (45, true)⟩,
      ⟨some 48, .bin .eql (.t 47) (.c (.v false (.int .i64 0))), some (45, true)⟩,
      ⟨some 49, .pick (.t 45) (.t 48) (.c (.v false (.bool false))), none⟩,
      ⟨some 50, .mv (.t 49), none⟩,
      ⟨some 51, .fad (.t 1) 2, some (50, true)⟩,
      ⟨some 52, .ld false 1 (.t 51), some (50, true)⟩,
      ⟨some 53, .lens (.t 52), some (50, true)⟩,
      ⟨some 54, .bin .leq (.t 53) (.c (.v false (.int .i64 6))), some (50, true)⟩,
      ⟨some 55, .pick (.t 50) (.t 54) (.c (.v false (.bool false))), none⟩,
      ⟨some 2, .mv (.t 55), none⟩] none)
    (.ret))))

def pf341 : PF := ⟨[.s 2], [], pb341⟩

-- loop.example/g00496/spec.Whole
def pl343_0 : PC :=
.seq (.seq (.reg [1, 2, 5, 10] [] [
         ⟨some 6, .mv (.t 5), none⟩,
         ⟨some 7, .fad (.t 2) 1, none⟩,
         ⟨some 8, .ld false 1 (.t 7), none⟩,
         ⟨some 9, .len (.t 8), none⟩,
         ⟨some 10, .bin .lss (.t 6) (.t 9), none⟩] none)
       (.cond (.t 10) (.skip)
        (.exit 0)))
      (.seq (.blk 1 (.seq (.reg [1, 2, 5, 21] [] [
           ⟨some 13, .fad (.t 2) 1, none⟩,
           ⟨some 14, .ld false 1 (.t 13), none⟩,
           ⟨some 15, .mv (.t 5), none⟩,
           ⟨some 16, .iad 2 (.t 14) (.t 15), none⟩,
           ⟨some 17, .fad (.t 16) 0, none⟩,
           ⟨some 18, .ld false 1 (.t 17), none⟩,
           ⟨some 19, .mv (.t 1), none⟩,
           ⟨some 20, .call 263 [] [(.t 18), (.t 19)], none⟩,
           ⟨some 21, .un .not (.t 20), none⟩] none)
         (.cond (.t 21) (.seq (.reg [4] [] [
             ⟨some 4, .mv (.c (.v false (.bool false))), none⟩] none)
           (.ret))
          (.skip))))
       (.reg [1, 2, 5] [] [
         ⟨some 11, .mv (.t 5), none⟩,
         ⟨some 12, .bin .add (.t 11) (.c (.v false (.int .i64 1))), none⟩,
         ⟨some 5, .mv (.t 12), none⟩] none))

def pb343 : PC :=
.seq (.reg [1, 2] [] [
   ⟨some 2, .box 2 (.t 0), none⟩,
   ⟨some 4, .mv (.c (.v false (.bool false))), none⟩] none)
 (.seq (.seq (.reg [1, 2, 5] [] [
     ⟨some 5, .mv (.c (.v false (.int .i64 0))), none⟩] none)
   (.blk 0 (.loop pl343_0)))
  (.seq (.reg [4] [] [
     ⟨some 22, .fad (.t 2) 0, none⟩,
     ⟨some 23, .ld false 1 (.t 22), none⟩,
     ⟨some 24, .fad (.t 2) 1, none⟩,
     ⟨some 25, .ld false 1 (.t 24), none⟩,
     ⟨some 26, .len (.t 25), none⟩,
     ⟨some 27, .bin .eql (.t 23) (.t 26), none⟩,
     ⟨some 4, .mv (.t 27), none⟩] none)
   (.ret)))

def pf343 : PF := ⟨[.s 4], [], pb343⟩

-- loop.example/g00496/spec.Write
def pb347 : PC :=
.seq (.reg [1, 2, 3, 6] [] [
   ⟨some 3, .box 2 (.t 0), none⟩,
   ⟨some 6, .alloc [(.v false (.int .i64 0)), (.nl 2)], none⟩,
   ⟨some 7, .mv (.c (.v false (.bool false))), none⟩] none)
 (.seq (.reg [1, 2, 3, 6, 8] [] [
    ⟨some 9, .ld true 2 (.t 3), none⟩,
    ⟨some 10, .call 359 [] [(.t 9)], none⟩,
    ⟨some 8, .alloc [(.v false (.int .i64 0)), (.nl 2)], none⟩,
    ⟨none, .st 2 (.t 8) (.t 10), none⟩] none)
  (.seq (.seq (.reg [1, 2, 6, 8, 34] [] [
      ⟨some 11, .mv (.t 1), none⟩,
      ⟨some 12, .bin .lss (.t 11) (.c (.v false (.int .i64 0))), none⟩,
      ⟨some 13, .mv (.t 12), none⟩,
      ⟨some 14, .mv (.t 1), some (13, false)⟩,
      ⟨some 15, .fad (.t 3) 0, some (13, false)⟩,
      ⟨some 16, .ld false 1 (.t 15), some (13, false)⟩,
      ⟨some 17, .bin .geq (.t 14) (.t 16), some (13, false)⟩,
      ⟨some 18, .pick (.t 13) (.c (.v false (.bool true))) (.t 17), none⟩,
      ⟨some 19, .mv (.t 18), none⟩,
      ⟨some 20, .mv (.t 1), some (19, false)⟩,
      ⟨some 21, .fad (.t 3) 1, some (19, false)⟩,
      ⟨some 22, .ld false 1 (.t 21), some (19, false)⟩,
      ⟨some 23, .len (.t 22), some (19, false)⟩,
      ⟨some 24, .bin .geq (.t 20) (.t 23), some (19, false)⟩,
      ⟨some 25, .pick (.t 19) (.c (.v false (.bool true))) (.t 24), none⟩,
      ⟨some 26, .mv (.t 25), none⟩,
      ⟨some 27, .fad (.t 3) 1, some (26, false)⟩,
      ⟨some 28, .ld false 1 (.t 27), some (26, false)⟩,
      ⟨some 29, .mv (.t 1), some (26, false)⟩,
      ⟨some 30, .iad 2 (.t 28) (.t 29), some (26, false)⟩,
      ⟨some 31, .fad (.t 30) 0, some (26, false)⟩,
      ⟨some 32, .ld false 1 (.t 31), some (26, false)⟩,
      ⟨some 33, .bin .neq (.t 32) (.c (.v false (.int .i64 0))), some (26, false)⟩,
      ⟨some 34, .pick (.t 26) (.c (.v false (.bool true))) (.t 33), none⟩] none)
    (.cond (.t 34) (.seq (.reg [6, 7] [] [
        ⟨some 35, .ld true 2 (.t 8), none⟩,
        ⟨none, .st 2 (.t 6) (.t 35), none⟩,
        ⟨some 7, .mv (.c (.v false (.bool false))), none⟩] none)
      (.ret))
     (.skip)))
   (.seq (.reg [6, 8] [] [
      ⟨some 36, .fad (.t 8) 1, none⟩,
      ⟨some 37, .ld false 1 (.t 36), none⟩,
      ⟨some 38, .mv (.t 1), none⟩,
      ⟨some 39, .bsl 3 [] 0 [], none⟩,
      ⟨some 40, .mv (.t 2), none⟩,
      ⟨some 41, .app 3 32 (.t 39) (.t 40), none⟩,
      ⟨some 42, .build [(.v false (.int .i64 0)), (.nl 3)] [(0, 1, (.c (.v false (.int .i64 (-1))))), (1, 1, (.t 41))], none⟩,
      ⟨some 43, .iad 2 (.t 37) (.t 38), none⟩,
      ⟨none, .st 2 (.t 43) (.t 42), none⟩] (some [(1, 3), (1, 5)]))
    (.seq (.reg [6, 7] [] [
       ⟨some 44, .ld true 2 (.t 8), none⟩,
       ⟨none, .st 2 (.t 6) (.t 44), none⟩,
       ⟨some 7, .mv (.c (.v false (.bool true))), none⟩] none)
     (.ret)))))

def pf347 : PF := ⟨[.b 6 2 true, .s 7], [], pb347⟩

-- loop.example/g00496/spec.l14Cell
def pb357 : PC :=
.seq (.reg [0] [] [
   ⟨some 2, .mv (.c (.v false (.int .i64 0))), none⟩] none)
 (.seq (.reg [0, 2] [(5, 2)] [
    ⟨some 3, .mv (.t 0), none⟩,
    ⟨some 4, .bsl 1 [.int .i64 0, .int .i64 0, .int .i64 0, .int .i64 0, .int .i64 0, .int .i64 0, .int .i64 0, .int .i64 0, .int .i64 0] 9 [(0, (.c (.v false (.int .i64 0)))), (1, (.c (.v false (.int .i64 0)))), (2, (.c (.v false (.int .i64 (-1))))), (3, (.c (.v false (.int .i64 (-1))))), (4, (.c (.v false (.int .i64 1)))), (5, (.c (.v false (.int .i64 2)))), (6, (.c (.v false (.int .i64 3)))), (7, (.c (.v false (.int .i64 7)))), (8, (.c (.v false (.int .i64 (-2)))))], none⟩,
    ⟨some 5, .call 378 [0] [(.t 3), (.t 4)], none⟩,
    ⟨some 2, .mv (.t 5), none⟩] none)
  (.ret))

def pf357 : PF := ⟨[.s 2], [0], pb357⟩

-- loop.example/g00496/spec.l15Any
def pb358 : PC :=
.seq (.reg [0, 1, 4] [] [
   ⟨some 4, .alloc [(.v false (.int .i64 0)), (.nl 2)], none⟩] none)
 (.seq (.reg [0, 1, 4, 5] [] [
    ⟨some 6, .mv (.t 0), none⟩,
    ⟨some 7, .mv (.t 1), none⟩,
    ⟨some 8, .call 360 [0] [(.t 6), (.t 7)], none⟩,
    ⟨some 5, .alloc [(.v false (.int .i64 0)), (.nl 2)], none⟩,
    ⟨none, .st 2 (.t 5) (.t 8), none⟩] none)
  (.seq (.seq (.reg [0, 1, 4, 5, 10] [] [
      ⟨some 9, .mv (.t 0), none⟩,
      ⟨some 10, .call 375 [0] [(.t 9), (.c (.v false (.int .i64 12)))], none⟩] none)
    (.blk 0 (.seq (.reg [0, 1, 4, 5, 10, 11] [] [
        ⟨some 12, .bin .eql (.t 10) (.c (.v false (.int .i64 0))), none⟩,
        ⟨some 11, .mv (.t 12), none⟩] none)
      (.cond (.t 11) (.reg [0, 4, 5] [] [
         ⟨some 13, .mv (.t 0), none⟩,
         ⟨some 14, .fad (.t 5) 1, none⟩,
         ⟨some 15, .ld false 1 (.t 14), none⟩,
         ⟨some 16, .len (.t 15), none⟩,
         ⟨some 17, .fad (.t 5) 1, none⟩,
         ⟨some 18, .ld false 1 (.t 17), none⟩,
         ⟨some 19, .len (.t 18), none⟩,
         ⟨some 20, .bin .add (.t 19) (.c (.v false (.int .i64 1))), none⟩,
         ⟨some 21, .bsl 1 [.int .i64 0, .int .i64 0, .int .i64 0, .int .i64 0] 4 [(0, (.c (.v false (.int .i64 (-1))))), (1, (.c (.v false (.int .i64 0)))), (2, (.t 16)), (3, (.t 20))], none⟩,
         ⟨some 22, .call 378 [0] [(.t 13), (.t 21)], none⟩,
         ⟨some 23, .fad (.t 5) 0, none⟩,
         ⟨none, .st 1 (.t 23) (.t 22), none⟩] none)
       (.seq (.reg [0, 1, 4, 5, 10, 24] [] [
          ⟨some 25, .bin .eql (.t 10) (.c (.v false (.int .i64 1))), none⟩,
          ⟨some 24, .mv (.t 25), none⟩] none)
        (.cond (.t 24) (.reg [0, 4, 5] [] [
           ⟨some 26, .fad (.t 5) 1, none⟩,
           ⟨some 27, .ld false 1 (.t 26), none⟩,
           ⟨some 28, .mv (.t 0), none⟩,
           ⟨some 29, .call 357 [0] [(.t 28)], none⟩,
           ⟨some 30, .iad 2 (.t 27) (.c (.v false (.int .i64 0))), none⟩,
           ⟨some 31, .fad (.t 30) 0, none⟩,
           ⟨none, .st 1 (.t 31) (.t 29), none⟩] (some [(1, 3)]))
         (.seq (.reg [0, 1, 4, 5, 10, 32] [] [
            ⟨some 33, .bin .eql (.t 10) (.c (.v false (.int .i64 2))), none⟩,
            ⟨some 32, .mv (.t 33), none⟩] none)
          (.cond (.t 32) (.reg [0, 4, 5] [] [
             ⟨some 34, .fad (.t 5) 1, none⟩,
             ⟨some 35, .ld false 1 (.t 34), none⟩,
             ⟨some 36, .mv (.t 0), none⟩,
             ⟨some 37, .mv (.t 1), none⟩,
             ⟨some 38, .call 398 [0] [(.t 36), (.t 37)], none⟩,
             ⟨some 39, .iad 2 (.t 35) (.c (.v false (.int .i64 0))), none⟩,
             ⟨some 40, .fad (.t 39) 1, none⟩,
             ⟨none, .st 1 (.t 40) (.t 38), none⟩] (some [(1, 4)]))
           (.seq (.reg [0, 4, 5, 41] [] [
              ⟨some 42, .bin .eql (.t 10) (.c (.v false (.int .i64 3))), none⟩,
              ⟨some 41, .mv (.t 42), none⟩] none)
            (.cond (.t 41) (.reg [0, 4, 5] [] [
               ⟨some 43, .fad (.t 5) 1, none⟩,
               ⟨some 44, .ld false 1 (.t 43), none⟩,
               ⟨some 45, .build [(.v false (.int .i64 0)), (.nl 3)] [], none⟩,
               ⟨some 46, .build [(.v false (.int .i64 0)), (.nl 3)] [], none⟩,
               ⟨some 47, .bsl 2 [.int .i64 0, .sl 3 [], .int .i64 0, .sl 3 []] 2 [(0, (.t 45)), (2, (.t 46))], none⟩,
               ⟨some 48, .app 2 32 (.t 44) (.t 47), none⟩,
               ⟨some 49, .fad (.t 5) 1, none⟩,
               ⟨none, .st 1 (.t 49) (.t 48), none⟩] none)
             (.skip)))))))))))
   (.seq (.reg [0, 4] [] [
      ⟨some 50, .ld true 2 (.t 5), none⟩,
      ⟨none, .st 2 (.t 4) (.t 50), none⟩] none)
    (.ret))))

def pf358 : PF := ⟨[.b 4 2 true], [0], pb358⟩

-- loop.example/g00496/spec.l15Copy
def pl359_0 : PC :=
.seq (.seq (.reg [1, 2, 3, 4, 13] [] [
          ⟨some 9, .mv (.t 4), none⟩,
          ⟨some 10, .fad (.t 1) 1, none⟩,
          ⟨some 11, .ld false 1 (.t 10), none⟩,
          ⟨some 12, .len (.t 11), none⟩,
          ⟨some 13, .bin .lss (.t 9) (.t 12), none⟩] none)
        (.cond (.t 13) (.skip)
         (.exit 0)))
       (.seq (.blk 1 (.reg [1, 2, 3, 4] [] [
           ⟨some 16, .fad (.t 3) 1, none⟩,
           ⟨some 17, .ld false 1 (.t 16), none⟩,
           ⟨some 18, .fad (.t 1) 1, none⟩,
           ⟨some 19, .ld false 1 (.t 18), none⟩,
           ⟨some 20, .mv (.t 4), none⟩,
           ⟨some 21, .iad 2 (.t 19) (.t 20), none⟩,
           ⟨some 22, .fad (.t 21) 0, none⟩,
           ⟨some 23, .ld false 1 (.t 22), none⟩,
           ⟨some 24, .bsl 3 [] 0 [], none⟩,
           ⟨some 25, .fad (.t 1) 1, none⟩,
           ⟨some 26, .ld false 1 (.t 25), none⟩,
           ⟨some 27, .mv (.t 4), none⟩,
           ⟨some 28, .iad 2 (.t 26) (.t 27), none⟩,
           ⟨some 29, .fad (.t 28) 1, none⟩,
           ⟨some 30, .ld false 1 (.t 29), none⟩,
           ⟨some 31, .app 3 32 (.t 24) (.t 30), none⟩,
           ⟨some 32, .build [(.v false (.int .i64 0)), (.nl 3)] [(0, 1, (.t 23)), (1, 1, (.t 31))], none⟩,
           ⟨some 33, .bsl 2 [.int .i64 0, .sl 3 []] 1 [(0, (.t 32))], none⟩,
           ⟨some 34, .app 2 32 (.t 17) (.t 33), none⟩,
           ⟨some 35, .fad (.t 3) 1, none⟩,
           ⟨none, .st 1 (.t 35) (.t 34), none⟩] (some [(1, 8), (3, 8), (5, 8), (7, 8), (8, 10), (8, 12), (8, 14), (1, 15), (3, 15), (5, 15), (7, 15), (1, 17)])))
        (.reg [1, 2, 3, 4] [] [
          ⟨some 14, .mv (.t 4), none⟩,
          ⟨some 15, .bin .add (.t 14) (.c (.v false (.int .i64 1))), none⟩,
          ⟨some 4, .mv (.t 15), none⟩] none))

def pb359 : PC :=
.seq (.reg [1, 2] [] [
   ⟨some 1, .box 2 (.t 0), none⟩,
   ⟨some 2, .alloc [(.v false (.int .i64 0)), (.nl 2)], none⟩] none)
 (.seq (.reg [1, 2, 3] [] [
    ⟨some 5, .fad (.t 1) 0, none⟩,
    ⟨some 6, .ld false 1 (.t 5), none⟩,
    ⟨some 7, .bsl 2 [] 0 [], none⟩,
    ⟨some 8, .build [(.v false (.int .i64 0)), (.nl 2)] [(0, 1, (.t 6)), (1, 1, (.t 7))], none⟩,
    ⟨some 3, .alloc [(.v false (.int .i64 0)), (.nl 2)], none⟩,
    ⟨none, .st 2 (.t 3) (.t 8), none⟩] none)
  (.seq (.seq (.reg [1, 2, 3, 4] [] [
      ⟨some 4, .mv (.c (.v false (.int .i64 0))), none⟩] none)
    (.blk 0 (.loop pl359_0)))
   (.seq (.reg [2] [] [
      ⟨some 36, .ld true 2 (.t 3), none⟩,
      ⟨none, .st 2 (.t 2) (.t 36), none⟩] none)
    (.ret))))

def pf359 : PF := ⟨[.b 2 2 true], [], pb359⟩

-- loop.example/g00496/spec.l15Draw
def pl360_0 : PC :=
.seq (.seq (.reg [0, 1, 4, 5, 6, 16] [] [
          ⟨some 15, .mv (.t 6), none⟩,
          ⟨some 16, .bin .gtr (.t 15) (.c (.v false (.int .i64 0))), none⟩] none)
        (.cond (.t 16) (.skip)
         (.exit 0)))
       (.seq (.blk 1 (.seq (.reg [0, 1, 4, 5, 6, 7, 8] [(21, 8)] [
            ⟨some 20, .ld true 2 (.t 5), none⟩,
            ⟨some 21, .call 323 [] [(.t 20)], none⟩,
            ⟨some 19, .mv (.t 21), none⟩,
            ⟨some 22, .ext (.t 19) 0, none⟩,
            ⟨some 23, .ext (.t 19) 1, none⟩,
            ⟨some 7, .alloc [(.v false (.int .i64 0)), (.nl 2)], none⟩,
            ⟨none, .st 2 (.t 7) (.t 22), none⟩,
            ⟨some 8, .mv (.t 23), none⟩] none)
          (.seq (.reg [0, 1, 4, 5, 6, 8] [] [
             ⟨some 24, .ld true 2 (.t 7), none⟩,
             ⟨none, .st 2 (.t 5) (.t 24), none⟩] none)
           (.seq (.reg [0, 1, 4, 5, 6, 8, 31] [] [
              ⟨some 25, .mv (.t 8), none⟩,
              ⟨some 26, .bin .geq (.t 25) (.c (.v false (.int .i64 0))), none⟩,
              ⟨some 27, .mv (.t 26), none⟩,
              ⟨some 28, .mv (.t 0), some (27, true)⟩,
              ⟨some 29, .call 382 [0] [(.t 28), (.c (.v false (.int .i64 4)))], some (27, true)⟩,
              ⟨some 30, .un .not (.t 29), some (27, true)⟩,
              ⟨some 31, .pick (.t 27) (.t 30) (.c (.v false (.bool false))), none⟩] none)
            (.cond (.t 31) (.seq (.reg [0, 1, 4, 5, 6, 8] [] [
                ⟨some 33, .ld true 2 (.t 5), none⟩,
                ⟨some 34, .mv (.t 8), none⟩,
                ⟨some 35, .mv (.t 0), none⟩,
                ⟨some 36, .mv (.t 1), none⟩,
                ⟨some 37, .call 401 [0] [(.t 35), (.t 36)], none⟩,
                ⟨some 38, .call 347 [] [(.t 33), (.t 34), (.t 37)], none⟩,
                ⟨some 32, .mv (.t 38), none⟩,
                ⟨some 39, .ext (.t 32) 0, none⟩,
                ⟨some 40, .ext (.t 32) 1, none⟩,
                ⟨none, .st 2 (.t 5) (.t 39), none⟩] (some [(0, 4)]))
              (.seq (.reg [0, 1, 4, 5, 6, 8, 43] [] [
                 ⟨some 41, .mv (.t 0), none⟩,
                 ⟨some 42, .call 382 [0] [(.t 41), (.c (.v false (.int .i64 3)))], none⟩,
                 ⟨some 43, .un .not (.t 42), none⟩] none)
               (.cond (.t 43) (.reg [0, 1, 4, 5, 6] [] [
                  ⟨some 45, .ld true 2 (.t 5), none⟩,
                  ⟨some 46, .mv (.t 8), none⟩,
                  ⟨some 47, .mv (.t 0), none⟩,
                  ⟨some 48, .call 375 [0] [(.t 47), (.c (.v false (.int .i64 6)))], none⟩,
                  ⟨some 49, .bin .add (.c (.v false (.int .i64 1))) (.t 48), none⟩,
                  ⟨some 50, .call 336 [] [(.t 45), (.t 46), (.t 49)], none⟩,
                  ⟨some 44, .mv (.t 50), none⟩,
                  ⟨some 51, .ext (.t 44) 0, none⟩,
                  ⟨some 52, .ext (.t 44) 1, none⟩,
                  ⟨none, .st 2 (.t 5) (.t 51), none⟩] (some [(0, 3)]))
                (.skip))))
             (.skip))))))
        (.reg [0, 1, 4, 5, 6] [] [
          ⟨some 17, .mv (.t 6), none⟩,
          ⟨some 18, .bin .sub (.t 17) (.c (.v false (.int .i64 1))), none⟩,
          ⟨some 6, .mv (.t 18), none⟩] none))

def pb360 : PC :=
.seq (.reg [0, 1, 4] [] [
   ⟨some 4, .alloc [(.v false (.int .i64 0)), (.nl 2)], none⟩] none)
 (.seq (.reg [0, 1, 4, 5] [] [
    ⟨some 9, .mv (.t 0), none⟩,
    ⟨some 10, .call 375 [0] [(.t 9), (.c (.v false (.int .i64 4)))], none⟩,
    ⟨some 11, .bin .add (.c (.v false (.int .i64 1))) (.t 10), none⟩,
    ⟨some 12, .call 265 [] [(.t 11)], none⟩,
    ⟨some 5, .alloc [(.v false (.int .i64 0)), (.nl 2)], none⟩,
    ⟨none, .st 2 (.t 5) (.t 12), none⟩] none)
  (.seq (.seq (.reg [0, 1, 4, 5, 6] [(14, 6)] [
      ⟨some 13, .mv (.t 0), none⟩,
      ⟨some 14, .call 375 [0] [(.t 13), (.c (.v false (.int .i64 6)))], none⟩,
      ⟨some 6, .mv (.t 14), none⟩] none)
    (.blk 0 (.loop pl360_0)))
   (.seq (.reg [0, 4] [] [
      ⟨some 53, .ld true 2 (.t 5), none⟩,
      ⟨none, .st 2 (.t 4) (.t 53), none⟩] none)
    (.ret))))

def pf360 : PF := ⟨[.b 4 2 true], [0], pb360⟩

-- loop.example/g00496/spec.l1Below
def pb375 : PC :=
.seq (.reg [0, 1] [] [
   ⟨some 4, .mv (.c (.v false (.int .i64 0))), none⟩] none)
 (.seq (.seq (.reg [0, 1, 9] [] [
     ⟨some 8, .mv (.t 1), none⟩,
     ⟨some 9, .bin .leq (.t 8) (.c (.v false (.int .i64 0))), none⟩] none)
   (.cond (.t 9) (.seq (.reg [0, 4] [] [
       ⟨some 4, .mv (.c (.v false (.int .i64 0))), none⟩] none)
     (.ret))
    (.skip)))
  (.seq (.seq (.reg [0, 1, 11] [] [
      ⟨some 10, .mv (.t 1), none⟩,
      ⟨some 11, .bin .leq (.t 10) (.c (.v false (.int .i64 256))), none⟩] none)
    (.cond (.t 11) (.seq (.reg [0, 4] [] [
        ⟨some 12, .mv (.t 0), none⟩,
        ⟨some 13, .call 376 [0] [(.t 12)], none⟩,
        ⟨some 14, .mv (.t 1), none⟩,
        ⟨some 15, .bin .rem (.t 13) (.t 14), none⟩,
        ⟨some 4, .mv (.t 15), none⟩] none)
      (.ret))
     (.skip)))
   (.seq (.reg [0, 1, 5] [(17, 5)] [
      ⟨some 16, .mv (.t 0), none⟩,
      ⟨some 17, .call 376 [0] [(.t 16)], none⟩,
      ⟨some 5, .mv (.t 17), none⟩] none)
    (.seq (.reg [0, 1, 5, 6] [(19, 6)] [
       ⟨some 18, .mv (.t 0), none⟩,
       ⟨some 19, .call 376 [0] [(.t 18)], none⟩,
       ⟨some 6, .mv (.t 19), none⟩] none)
     (.seq (.reg [0, 1, 5, 6, 7] [(21, 7)] [
        ⟨some 20, .mv (.t 0), none⟩,
        ⟨some 21, .call 376 [0] [(.t 20)], none⟩,
        ⟨some 7, .mv (.t 21), none⟩] none)
      (.seq (.reg [0, 4] [] [
         ⟨some 22, .mv (.t 5), none⟩,
         ⟨some 23, .bin .mul (.t 22) (.c (.v false (.int .i64 65536))), none⟩,
         ⟨some 24, .mv (.t 6), none⟩,
         ⟨some 25, .bin .mul (.t 24) (.c (.v false (.int .i64 256))), none⟩,
         ⟨some 26, .bin .add (.t 23) (.t 25), none⟩,
         ⟨some 27, .mv (.t 7), none⟩,
         ⟨some 28, .bin .add (.t 26) (.t 27), none⟩,
         ⟨some 29, .mv (.t 1), none⟩,
         ⟨some 30, .bin .rem (.t 28) (.t 29), none⟩,
         ⟨some 4, .mv (.t 30), none⟩] none)
       (.ret)))))))

def pf375 : PF := ⟨[.s 4], [0], pb375⟩

-- loop.example/g00496/spec.l1Byte
def pb376 : PC :=
.seq (.reg [0] [] [
   ⟨some 2, .mv (.c (.v false (.int .i64 0))), none⟩] none)
 (.seq (.reg [0] [] [
    ⟨some 4, .mv (.t 0), none⟩,
    ⟨some 5, .mv (.t 0), none⟩,
    ⟨some 6, .nck (.t 5), none⟩,
    ⟨some 7, .fad (.t 6) 2, none⟩,
    ⟨some 8, .ld false 1 (.t 7), none⟩,
    ⟨some 9, .bin .mul (.t 8) (.c (.v false (.int .i64 6364136223846793005))), none⟩,
    ⟨some 10, .bin .add (.t 9) (.c (.v false (.int .i64 1442695040888963407))), none⟩,
    ⟨some 11, .nck (.t 4), none⟩,
    ⟨some 12, .fad (.t 11) 2, none⟩,
    ⟨none, .st 1 (.t 12) (.t 10), none⟩] none)
  (.seq (.reg [0, 3] [] [
     ⟨some 13, .mv (.t 0), none⟩,
     ⟨some 14, .nck (.t 13), none⟩,
     ⟨some 15, .fad (.t 14) 2, none⟩,
     ⟨some 16, .ld false 1 (.t 15), none⟩,
     ⟨some 17, .bin .shr (.t 16) (.c (.v false (.int .u64 33))), none⟩,
     ⟨some 18, .mv (.t 0), none⟩,
     ⟨some 19, .nck (.t 18), none⟩,
     ⟨some 20, .fad (.t 19) 2, none⟩,
     ⟨some 21, .ld false 1 (.t 20), none⟩,
     ⟨some 22, .bin .shr (.t 21) (.c (.v false (.int .u64 47))), none⟩,
     ⟨some 23, .bin .xor (.t 17) (.t 22), none⟩,
     ⟨some 24, .bin .and (.t 23) (.c (.v false (.int .i64 255))), none⟩,
     ⟨some 3, .mv (.t 24), none⟩] (some []))
   (.seq (.seq (.reg [0, 3, 34] [] [
       ⟨some 25, .mv (.t 0), none⟩,
       ⟨some 26, .nck (.t 25), none⟩,
       ⟨some 27, .fad (.t 26) 1, none⟩,
       ⟨some 28, .ld false 1 (.t 27), none⟩,
       ⟨some 29, .mv (.t 0), none⟩,
       ⟨some 30, .nck (.t 29), none⟩,
       ⟨some 31, .fad (.t 30) 0, none⟩,
       ⟨some 32, .ld false 1 (.t 31), none⟩,
       ⟨some 33, .len (.t 32), none⟩,
       ⟨some 34, .bin .lss (.t 28) (.t 33), none⟩] (some []))
     (.cond (.t 34) (.seq (.reg [0, 3] [] [
         ⟨some 35, .mv (.t 3), none⟩,
         ⟨some 36, .mv (.t 0), none⟩,
         ⟨some 37, .nck (.t 36), none⟩,
         ⟨some 38, .fad (.t 37) 0, none⟩,
         ⟨some 39, .ld false 1 (.t 38), none⟩,
         ⟨some 40, .mv (.t 0), none⟩,
         ⟨some 41, .nck (.t 40), none⟩,
         ⟨some 42, .fad (.t 41) 1, none⟩,
         ⟨some 43, .ld false 1 (.t 42), none⟩,
         ⟨some 44, .iad 1 (.t 39) (.t 43), none⟩,
         ⟨some 45, .ld false 1 (.t 44), none⟩,
         ⟨some 46, .cvi .i64 (.t 45), none⟩,
         ⟨some 47, .bin .add (.t 35) (.t 46), none⟩,
         ⟨some 48, .bin .and (.t 47) (.c (.v false (.int .i64 255))), none⟩,
         ⟨some 3, .mv (.t 48), none⟩] (some []))
       (.reg [0, 3] [] [
         ⟨some 49, .mv (.t 0), none⟩,
         ⟨some 50, .mv (.t 0), none⟩,
         ⟨some 51, .nck (.t 50), none⟩,
         ⟨some 52, .fad (.t 51) 1, none⟩,
         ⟨some 53, .ld false 1 (.t 52), none⟩,
         ⟨some 54, .bin .add (.t 53) (.c (.v false (.int .i64 1))), none⟩,
         ⟨some 55, .nck (.t 49), none⟩,
         ⟨some 56, .fad (.t 55) 1, none⟩,
         ⟨none, .st 1 (.t 56) (.t 54), none⟩] none))
      (.skip)))
    (.seq (.reg [0, 2] [] [
       ⟨some 57, .mv (.t 3), none⟩,
       ⟨some 2, .mv (.t 57), none⟩] none)
     (.ret)))))

def pf376 : PF := ⟨[.s 2], [0], pb376⟩

-- loop.example/g00496/spec.l1In
def pb377 : PC :=
.seq (.reg [0, 1, 2] [] [
   ⟨some 6, .mv (.c (.v false (.bool false))), none⟩] none)
 (.seq (.reg [6] [] [
    ⟨some 7, .mv (.t 0), none⟩,
    ⟨some 8, .mv (.t 1), none⟩,
    ⟨some 9, .bin .geq (.t 7) (.t 8), none⟩,
    ⟨some 10, .mv (.t 9), none⟩,
    ⟨some 11, .mv (.t 0), some (10, true)⟩,
    ⟨some 12, .mv (.t 2), some (10, true)⟩,
    ⟨some 13, .bin .leq (.t 11) (.t 12), some (10, true)⟩,
    ⟨some 14, .pick (.t 10) (.t 13) (.c (.v false (.bool false))), none⟩,
    ⟨some 6, .mv (.t 14), none⟩] none)
  (.ret))

def pf377 : PF := ⟨[.s 6], [], pb377⟩

-- loop.example/g00496/spec.l1Int
def pb378 : PC :=
.seq (.reg [0, 1] [] [
   ⟨some 4, .mv (.c (.v false (.int .i64 0))), none⟩] none)
 (.seq (.reg [0, 4] [(9, 4)] [
    ⟨some 5, .mv (.t 1), none⟩,
    ⟨some 6, .mv (.t 0), none⟩,
    ⟨some 7, .mv (.t 1), none⟩,
    ⟨some 8, .len (.t 7), none⟩,
    ⟨some 9, .call 375 [0] [(.t 6), (.t 8)], none⟩,
    ⟨some 10, .iad 1 (.t 5) (.t 9), none⟩,
    ⟨some 11, .ld false 1 (.t 10), none⟩,
    ⟨some 4, .mv (.t 11), none⟩] none)
  (.ret))

def pf378 : PF := ⟨[.s 4], [0], pb378⟩

-- loop.example/g00496/spec.l1New
def pl379_0 : PC :=
.seq (.seq (.reg [0, 3, 4, 15] [] [
          ⟨some 8, .mv (.t 4), none⟩,
          ⟨some 9, .mv (.t 0), none⟩,
          ⟨some 10, .len (.t 9), none⟩,
          ⟨some 11, .bin .lss (.t 8) (.t 10), none⟩,
          ⟨some 12, .mv (.t 11), none⟩,
          ⟨some 13, .mv (.t 4), some (12, true)⟩,
          ⟨some 14, .bin .lss (.t 13) (.c (.v false (.int .i64 4000))), some (12, true)⟩,
          ⟨some 15, .pick (.t 12) (.t 14) (.c (.v false (.bool false))), none⟩] none)
        (.cond (.t 15) (.skip)
         (.exit 0)))
       (.seq (.blk 1 (.reg [0, 3, 4] [] [
           ⟨some 18, .mv (.t 3), none⟩,
           ⟨some 19, .bin .mul (.t 18) (.c (.v false (.int .i64 137))), none⟩,
           ⟨some 20, .mv (.t 0), none⟩,
           ⟨some 21, .mv (.t 4), none⟩,
           ⟨some 22, .iad 1 (.t 20) (.t 21), none⟩,
           ⟨some 23, .ld false 1 (.t 22), none⟩,
           ⟨some 24, .cvi .i64 (.t 23), none⟩,
           ⟨some 25, .bin .add (.t 19) (.t 24), none⟩,
           ⟨some 26, .bin .add (.t 25) (.c (.v false (.int .i64 11))), none⟩,
           ⟨some 27, .bin .and (.t 26) (.c (.v false (.int .i64 1073741823))), none⟩,
           ⟨some 3, .mv (.t 27), none⟩] none))
        (.reg [0, 3, 4] [] [
          ⟨some 16, .mv (.t 4), none⟩,
          ⟨some 17, .bin .add (.t 16) (.c (.v false (.int .i64 1))), none⟩,
          ⟨some 4, .mv (.t 17), none⟩] none))

def pb379 : PC :=
.seq (.reg [0] [] [
   ⟨some 2, .mv (.c (.un)), none⟩] none)
 (.seq (.reg [0, 3] [] [
    ⟨some 5, .mv (.t 0), none⟩,
    ⟨some 6, .len (.t 5), none⟩,
    ⟨some 7, .bin .add (.c (.v false (.int .i64 154242))) (.t 6), none⟩,
    ⟨some 3, .mv (.t 7), none⟩] none)
  (.seq (.seq (.reg [0, 3, 4] [] [
      ⟨some 4, .mv (.c (.v false (.int .i64 0))), none⟩] none)
    (.blk 0 (.loop pl379_0)))
   (.seq (.reg [2] [(31, 2)] [
      ⟨some 28, .mv (.t 0), none⟩,
      ⟨some 29, .mv (.t 3), none⟩,
      ⟨some 30, .build [(.nl 1), (.v false (.int .i64 0)), (.v false (.int .i64 0))] [(0, 1, (.t 28)), (2, 1, (.t 29))], none⟩,
      ⟨some 31, .box 3 (.t 30), none⟩,
      ⟨some 2, .mv (.t 31), none⟩] none)
    (.ret))))

def pf379 : PF := ⟨[.s 2], [], pb379⟩

-- loop.example/g00496/spec.l1Num
def pb380 : PC :=
.seq (.reg [0] [] [
   ⟨some 2, .mv (.c (.v false (.int .i64 0))), none⟩] none)
 (.seq (.seq (.reg [0, 4] [] [
     ⟨some 3, .mv (.t 0), none⟩,
     ⟨some 4, .call 375 [0] [(.t 3), (.c (.v false (.int .i64 5)))], none⟩] none)
   (.blk 0 (.seq (.reg [0, 4, 5] [] [
       ⟨some 6, .bin .eql (.t 4) (.c (.v false (.int .i64 0))), none⟩,
       ⟨some 5, .mv (.t 6), none⟩] none)
     (.cond (.t 5) (.seq (.reg [0, 2] [] [
         ⟨some 7, .mv (.t 0), none⟩,
         ⟨some 8, .call 375 [0] [(.t 7), (.c (.v false (.int .i64 300)))], none⟩,
         ⟨some 9, .bin .sub (.t 8) (.c (.v false (.int .i64 150))), none⟩,
         ⟨some 2, .mv (.t 9), none⟩] none)
       (.ret))
      (.seq (.reg [0, 4, 10] [] [
         ⟨some 11, .bin .eql (.t 4) (.c (.v false (.int .i64 1))), none⟩,
         ⟨some 10, .mv (.t 11), none⟩] none)
       (.cond (.t 10) (.seq (.reg [0, 2] [(14, 2)] [
           ⟨some 12, .mv (.t 0), none⟩,
           ⟨some 13, .bsl 1 [.int .i64 0, .int .i64 0, .int .i64 0, .int .i64 0, .int .i64 0, .int .i64 0, .int .i64 0, .int .i64 0, .int .i64 0, .int .i64 0, .int .i64 0, .int .i64 0] 12 [(0, (.c (.v false (.int .i64 0)))), (1, (.c (.v false (.int .i64 (-1))))), (2, (.c (.v false (.int .i64 1)))), (3, (.c (.v false (.int .i64 63)))), (4, (.c (.v false (.int .i64 64)))), (5, (.c (.v false (.int .i64 (-64))))), (6, (.c (.v false (.int .i64 (-65))))), (7, (.c (.v false (.int .i64 8191)))), (8, (.c (.v false (.int .i64 8192)))), (9, (.c (.v false (.int .i64 1000000000)))), (10, (.c (.v false (.int .i64 (-1000000000))))), (11, (.c (.v false (.int .i64 999999999))))], none⟩,
           ⟨some 14, .call 378 [0] [(.t 12), (.t 13)], none⟩,
           ⟨some 2, .mv (.t 14), none⟩] none)
         (.ret))
        (.seq (.reg [0, 15] [] [
           ⟨some 16, .bin .eql (.t 4) (.c (.v false (.int .i64 2))), none⟩,
           ⟨some 15, .mv (.t 16), none⟩] none)
         (.cond (.t 15) (.seq (.reg [0, 2] [] [
             ⟨some 17, .mv (.t 0), none⟩,
             ⟨some 18, .call 375 [0] [(.t 17), (.c (.v false (.int .i64 30000)))], none⟩,
             ⟨some 19, .mv (.t 0), none⟩,
             ⟨some 20, .call 375 [0] [(.t 19), (.c (.v false (.int .i64 30000)))], none⟩,
             ⟨some 21, .bin .sub (.t 20) (.c (.v false (.int .i64 15000))), none⟩,
             ⟨some 22, .bin .mul (.t 18) (.t 21), none⟩,
             ⟨some 2, .mv (.t 22), none⟩] none)
           (.ret))
          (.skip)))))))))
  (.seq (.reg [0, 2] [] [
     ⟨some 23, .mv (.t 0), none⟩,
     ⟨some 24, .call 375 [0] [(.t 23), (.c (.v false (.int .i64 20)))], none⟩,
     ⟨some 25, .bin .sub (.t 24) (.c (.v false (.int .i64 5))), none⟩,
     ⟨some 2, .mv (.t 25), none⟩] none)
   (.ret)))

def pf380 : PF := ⟨[.s 2], [0], pb380⟩

-- loop.example/g00496/spec.l1Odd
def pb381 : PC :=
.seq (.reg [0] [] [
   ⟨some 2, .mv (.c (.v false (.int .i64 0))), none⟩] none)
 (.seq (.reg [0, 2] [(5, 2)] [
    ⟨some 3, .mv (.t 0), none⟩,
    ⟨some 4, .bsl 1 [.int .i64 0, .int .i64 0, .int .i64 0, .int .i64 0, .int .i64 0, .int .i64 0, .int .i64 0, .int .i64 0, .int .i64 0, .int .i64 0, .int .i64 0, .int .i64 0, .int .i64 0, .int .i64 0] 14 [(0, (.c (.v false (.int .i64 (-1))))), (1, (.c (.v false (.int .i64 0)))), (2, (.c (.v false (.int .i64 1)))), (3, (.c (.v false (.int .i64 2)))), (4, (.c (.v false (.int .i64 255)))), (5, (.c (.v false (.int .i64 256)))), (6, (.c (.v false (.int .i64 65535)))), (7, (.c (.v false (.int .i64 2147483647)))), (8, (.c (.v false (.int .i64 2147483648)))), (9, (.c (.v false (.int .i64 4294967295)))), (10, (.c (.v false (.int .i64 4294967296)))), (11, (.c (.v false (.int .i64 (-2147483648))))), (12, (.c (.v false (.int .i64 9223372036854775807)))), (13, (.c (.v false (.int .i64 (-9223372036854775808)))))], none⟩,
    ⟨some 5, .call 378 [0] [(.t 3), (.t 4)], none⟩,
    ⟨some 2, .mv (.t 5), none⟩] none)
  (.ret))

def pf381 : PF := ⟨[.s 2], [0], pb381⟩

-- loop.example/g00496/spec.l1Once
def pb382 : PC :=
.seq (.reg [0, 1] [] [
   ⟨some 4, .mv (.c (.v false (.bool false))), none⟩] none)
 (.seq (.reg [0, 4] [] [
    ⟨some 5, .mv (.t 0), none⟩,
    ⟨some 6, .mv (.t 1), none⟩,
    ⟨some 7, .call 375 [0] [(.t 5), (.t 6)], none⟩,
    ⟨some 8, .bin .eql (.t 7) (.c (.v false (.int .i64 0))), none⟩,
    ⟨some 4, .mv (.t 8), none⟩] none)
  (.ret))

def pf382 : PF := ⟨[.s 4], [0], pb382⟩

-- loop.example/g00496/spec.l1Raw
def pb383 : PC :=
.seq (.reg [0] [] [
   ⟨some 2, .mv (.c (.v false (.int .i64 0))), none⟩] none)
 (.seq (.seq (.reg [0, 4] [] [
     ⟨some 3, .mv (.t 0), none⟩,
     ⟨some 4, .call 382 [0] [(.t 3), (.c (.v false (.int .i64 3)))], none⟩] none)
   (.cond (.t 4) (.seq (.reg [0, 2] [(6, 2)] [
       ⟨some 5, .mv (.t 0), none⟩,
       ⟨some 6, .call 381 [0] [(.t 5)], none⟩,
       ⟨some 2, .mv (.t 6), none⟩] none)
     (.ret))
    (.skip)))
  (.seq (.reg [0, 2] [(9, 2)] [
     ⟨some 7, .mv (.t 0), none⟩,
     ⟨some 8, .bsl 1 [.int .i64 0, .int .i64 0, .int .i64 0, .int .i64 0, .int .i64 0, .int .i64 0] 6 [(0, (.c (.v false (.int .i64 1000000001)))), (1, (.c (.v false (.int .i64 (-1000000001))))), (2, (.c (.v false (.int .i64 2000000000)))), (3, (.c (.v false (.int .i64 2000000001)))), (4, (.c (.v false (.int .i64 0)))), (5, (.c (.v false (.int .i64 (-1)))))], none⟩,
     ⟨some 9, .call 378 [0] [(.t 7), (.t 8)], none⟩,
     ⟨some 2, .mv (.t 9), none⟩] none)
   (.ret)))

def pf383 : PF := ⟨[.s 2], [0], pb383⟩

-- loop.example/g00496/spec.l1Right
def pb384 : PC :=
.seq (.reg [0] [] [
   ⟨some 2, .mv (.c (.v false (.bool false))), none⟩] none)
 (.seq (.reg [2] [(4, 2)] [
    ⟨some 3, .mv (.t 0), none⟩,
    ⟨some 4, .call 377 [] [(.t 3), (.c (.v false (.int .i64 (-1000000000)))), (.c (.v false (.int .i64 1000000000)))], none⟩,
    ⟨some 2, .mv (.t 4), none⟩] none)
  (.ret))

def pf384 : PF := ⟨[.s 2], [], pb384⟩

-- loop.example/g00496/spec.l1Str
def pb385 : PC :=
.seq (.reg [0, 1] [] [
   ⟨some 4, .mv (.c (.v false (.str ⟨#[]⟩))), none⟩] none)
 (.seq (.reg [0, 4] [(9, 4)] [
    ⟨some 5, .mv (.t 1), none⟩,
    ⟨some 6, .mv (.t 0), none⟩,
    ⟨some 7, .mv (.t 1), none⟩,
    ⟨some 8, .len (.t 7), none⟩,
    ⟨some 9, .call 375 [0] [(.t 6), (.t 8)], none⟩,
    ⟨some 10, .iad 1 (.t 5) (.t 9), none⟩,
    ⟨some 11, .ld false 1 (.t 10), none⟩,
    ⟨some 4, .mv (.t 11), none⟩] none)
  (.ret))

def pf385 : PF := ⟨[.s 4], [0], pb385⟩

-- loop.example/g00496/spec.l3Any
def pb393 : PC :=
.seq (.reg [0, 2] [] [
   ⟨some 2, .alloc [(.v false (.int .i64 0)), (.v false (.int .i64 0)), (.v false (.str ⟨#[]⟩))], none⟩] none)
 (.seq (.reg [0, 2, 3] [] [
    ⟨some 4, .mv (.t 0), none⟩,
    ⟨some 5, .call 394 [0] [(.t 4)], none⟩,
    ⟨some 3, .alloc [(.v false (.int .i64 0)), (.v false (.int .i64 0)), (.v false (.str ⟨#[]⟩))], none⟩,
    ⟨none, .st 3 (.t 3) (.t 5), none⟩] none)
  (.seq (.seq (.reg [0, 2, 3, 7] [] [
      ⟨some 6, .mv (.t 0), none⟩,
      ⟨some 7, .call 375 [0] [(.t 6), (.c (.v false (.int .i64 10)))], none⟩] none)
    (.blk 0 (.seq (.reg [0, 2, 3, 7, 8] [] [
        ⟨some 9, .bin .eql (.t 7) (.c (.v false (.int .i64 0))), none⟩,
        ⟨some 8, .mv (.t 9), none⟩] none)
      (.cond (.t 8) (.reg [0, 2, 3] [] [
         ⟨some 10, .mv (.t 0), none⟩,
         ⟨some 11, .bsl 1 [.int .i64 0, .int .i64 0, .int .i64 0, .int .i64 0] 4 [(0, (.c (.v false (.int .i64 0)))), (1, (.c (.v false (.int .i64 1)))), (2, (.c (.v false (.int .i64 2)))), (3, (.c (.v false (.int .i64 3))))], none⟩,
         ⟨some 12, .call 378 [0] [(.t 10), (.t 11)], none⟩,
         ⟨some 13, .fad (.t 3) 0, none⟩,
         ⟨none, .st 1 (.t 13) (.t 12), none⟩] none)
       (.seq (.reg [0, 2, 3, 7, 14] [] [
          ⟨some 15, .bin .eql (.t 7) (.c (.v false (.int .i64 1))), none⟩,
          ⟨some 14, .mv (.t 15), none⟩] none)
        (.cond (.t 14) (.reg [0, 2, 3] [] [
           ⟨some 16, .mv (.t 0), none⟩,
           ⟨some 17, .call 383 [0] [(.t 16)], none⟩,
           ⟨some 18, .fad (.t 3) 1, none⟩,
           ⟨none, .st 1 (.t 18) (.t 17), none⟩] none)
         (.seq (.reg [0, 2, 3, 19] [] [
            ⟨some 20, .bin .eql (.t 7) (.c (.v false (.int .i64 2))), none⟩,
            ⟨some 19, .mv (.t 20), none⟩] none)
          (.cond (.t 19) (.reg [0, 2, 3] [] [
             ⟨some 21, .mv (.t 0), none⟩,
             ⟨some 22, .bsl 1 [.str ⟨#[]⟩, .str ⟨#[]⟩, .str ⟨#[]⟩, .str ⟨#[]⟩, .str ⟨#[]⟩] 5 [(0, (.c (.v false (.str ⟨#[97, 32, 98]⟩)))), (1, (.c (.v false (.str ⟨#[115, 101, 118, 101, 110, 55, 55]⟩)))), (2, (.c (.v false (.str ⟨#[127]⟩)))), (3, (.c (.v false (.str ⟨#[126]⟩)))), (4, (.c (.v false (.str ⟨#[33]⟩))))], none⟩,
             ⟨some 23, .call 385 [0] [(.t 21), (.t 22)], none⟩,
             ⟨some 24, .fad (.t 3) 2, none⟩,
             ⟨none, .st 1 (.t 24) (.t 23), none⟩] none)
           (.skip)))))))))
   (.seq (.reg [0, 2] [] [
      ⟨some 25, .ld true 3 (.t 3), none⟩,
      ⟨none, .st 3 (.t 2) (.t 25), none⟩] none)
    (.ret))))

def pf393 : PF := ⟨[.b 2 3 true], [0], pb393⟩

-- loop.example/g00496/spec.l3Draw
def pb394 : PC :=
.seq (.reg [0, 2] [] [
   ⟨some 2, .alloc [(.v false (.int .i64 0)), (.v false (.int .i64 0)), (.v false (.str ⟨#[]⟩))], none⟩] none)
 (.seq (.seq (.reg [0, 2, 4] [] [
     ⟨some 3, .mv (.t 0), none⟩,
     ⟨some 4, .call 382 [0] [(.t 3), (.c (.v false (.int .i64 2)))], none⟩] none)
   (.cond (.t 4) (.seq (.reg [0, 2] [] [
       ⟨some 5, .mv (.t 0), none⟩,
       ⟨some 6, .call 395 [0] [(.t 5)], none⟩,
       ⟨none, .st 3 (.t 2) (.t 6), none⟩] none)
     (.ret))
    (.skip)))
  (.seq (.reg [0, 2] [] [
     ⟨some 7, .mv (.t 0), none⟩,
     ⟨some 8, .call 396 [0] [(.t 7)], none⟩,
     ⟨none, .st 3 (.t 2) (.t 8), none⟩] none)
   (.ret)))

def pf394 : PF := ⟨[.b 2 3 true], [0], pb394⟩

-- loop.example/g00496/spec.l3Int
def pb395 : PC :=
.seq (.reg [0, 2] [] [
   ⟨some 2, .alloc [(.v false (.int .i64 0)), (.v false (.int .i64 0)), (.v false (.str ⟨#[]⟩))], none⟩] none)
 (.seq (.seq (.reg [0, 2, 4] [] [
     ⟨some 3, .mv (.t 0), none⟩,
     ⟨some 4, .call 382 [0] [(.t 3), (.c (.v false (.int .i64 4)))], none⟩] none)
   (.cond (.t 4) (.seq (.reg [0, 2] [] [
       ⟨some 5, .mv (.t 0), none⟩,
       ⟨some 6, .call 380 [0] [(.t 5)], none⟩,
       ⟨some 7, .build [(.v false (.int .i64 0)), (.v false (.int .i64 0)), (.v false (.str ⟨#[]⟩))] [(0, 1, (.c (.v false (.int .i64 1)))), (1, 1, (.t 6))], none⟩,
       ⟨none, .st 3 (.t 2) (.t 7), none⟩] none)
     (.ret))
    (.skip)))
  (.seq (.reg [0, 2] [] [
     ⟨some 8, .mv (.t 0), none⟩,
     ⟨some 9, .bsl 1 [.int .i64 0, .int .i64 0, .int .i64 0, .int .i64 0, .int .i64 0, .int .i64 0] 6 [(0, (.c (.v false (.int .i64 0)))), (1, (.c (.v false (.int .i64 1)))), (2, (.c (.v false (.int .i64 2)))), (3, (.c (.v false (.int .i64 3)))), (4, (.c (.v false (.int .i64 7)))), (5, (.c (.v false (.int .i64 (-1)))))], none⟩,
     ⟨some 10, .call 378 [0] [(.t 8), (.t 9)], none⟩,
     ⟨some 11, .build [(.v false (.int .i64 0)), (.v false (.int .i64 0)), (.v false (.str ⟨#[]⟩))] [(0, 1, (.c (.v false (.int .i64 1)))), (1, 1, (.t 10))], none⟩,
     ⟨none, .st 3 (.t 2) (.t 11), none⟩] none)
   (.ret)))

def pf395 : PF := ⟨[.b 2 3 true], [0], pb395⟩

-- loop.example/g00496/spec.l3Text
def pb396 : PC :=
.seq (.reg [0, 2] [] [
   ⟨some 2, .alloc [(.v false (.int .i64 0)), (.v false (.int .i64 0)), (.v false (.str ⟨#[]⟩))], none⟩] none)
 (.seq (.reg [0, 2] [] [
    ⟨some 3, .mv (.t 0), none⟩,
    ⟨some 4, .bsl 1 [.str ⟨#[]⟩, .str ⟨#[]⟩, .str ⟨#[]⟩, .str ⟨#[]⟩, .str ⟨#[]⟩, .str ⟨#[]⟩, .str ⟨#[]⟩, .str ⟨#[]⟩] 8 [(0, (.c (.v false (.str ⟨#[]⟩)))), (1, (.c (.v false (.str ⟨#[97]⟩)))), (2, (.c (.v false (.str ⟨#[98]⟩)))), (3, (.c (.v false (.str ⟨#[97, 98]⟩)))), (4, (.c (.v false (.str ⟨#[114, 101, 100]⟩)))), (5, (.c (.v false (.str ⟨#[98, 108, 117, 101]⟩)))), (6, (.c (.v false (.str ⟨#[103, 114, 101, 101, 110]⟩)))), (7, (.c (.v false (.str ⟨#[122, 122, 122, 122, 122, 122]⟩))))], none⟩,
    ⟨some 5, .call 385 [0] [(.t 3), (.t 4)], none⟩,
    ⟨some 6, .build [(.v false (.int .i64 0)), (.v false (.int .i64 0)), (.v false (.str ⟨#[]⟩))] [(0, 1, (.c (.v false (.int .i64 2)))), (2, 1, (.t 5))], none⟩,
    ⟨none, .st 3 (.t 2) (.t 6), none⟩] none)
  (.ret))

def pf396 : PF := ⟨[.b 2 3 true], [0], pb396⟩

-- loop.example/g00496/spec.l4Any
def pb398 : PC :=
.seq (.reg [0, 1] [] [
   ⟨some 4, .mv (.c (.nl 3)), none⟩] none)
 (.seq (.reg [0, 5] [(8, 5)] [
    ⟨some 6, .mv (.t 0), none⟩,
    ⟨some 7, .mv (.t 1), none⟩,
    ⟨some 8, .call 401 [0] [(.t 6), (.t 7)], none⟩,
    ⟨some 5, .mv (.t 8), none⟩] none)
  (.seq (.seq (.reg [0, 5, 10] [] [
      ⟨some 9, .mv (.t 0), none⟩,
      ⟨some 10, .call 375 [0] [(.t 9), (.c (.v false (.int .i64 8)))], none⟩] none)
    (.blk 0 (.seq (.reg [0, 5, 10, 11] [] [
        ⟨some 12, .bin .eql (.t 10) (.c (.v false (.int .i64 0))), none⟩,
        ⟨some 11, .mv (.t 12), none⟩] none)
      (.cond (.t 11) (.reg [0, 5] [(17, 5)] [
         ⟨some 13, .mv (.t 5), none⟩,
         ⟨some 14, .mv (.t 0), none⟩,
         ⟨some 15, .call 393 [0] [(.t 14)], none⟩,
         ⟨some 16, .bsl 3 [.int .i64 0, .int .i64 0, .str ⟨#[]⟩] 1 [(0, (.t 15))], none⟩,
         ⟨some 17, .app 3 32 (.t 13) (.t 16), none⟩,
         ⟨some 5, .mv (.t 17), none⟩] none)
       (.seq (.reg [0, 5, 18] [] [
          ⟨some 19, .bin .eql (.t 10) (.c (.v false (.int .i64 1))), none⟩,
          ⟨some 18, .mv (.t 19), none⟩] none)
        (.cond (.t 18) (.seq (.reg [0, 5, 22] [] [
            ⟨some 20, .mv (.t 5), none⟩,
            ⟨some 21, .len (.t 20), none⟩,
            ⟨some 22, .bin .gtr (.t 21) (.c (.v false (.int .i64 0))), none⟩] none)
          (.cond (.t 22) (.reg [0, 5] [] [
             ⟨some 23, .mv (.t 5), none⟩,
             ⟨some 24, .mv (.t 0), none⟩,
             ⟨some 25, .call 393 [0] [(.t 24)], none⟩,
             ⟨some 26, .iad 3 (.t 23) (.c (.v false (.int .i64 0))), none⟩,
             ⟨none, .st 3 (.t 26) (.t 25), none⟩] none)
           (.skip)))
         (.skip)))))))
   (.seq (.reg [0, 4, 5] [] [
      ⟨some 27, .mv (.t 5), none⟩,
      ⟨some 4, .mv (.t 27), none⟩] none)
    (.ret))))

def pf398 : PF := ⟨[.s 4], [0], pb398⟩

-- loop.example/g00496/spec.l4Cols
def pb399 : PC :=
.seq (.reg [0] [] [
   ⟨some 2, .mv (.c (.nl 1)), none⟩] none)
 (.seq (.reg [0, 2, 9] [(11, 2)] [
    ⟨some 3, .bsl 1 [.int .i64 0] 1 [(0, (.c (.v false (.int .i64 1))))], none⟩,
    ⟨some 4, .bsl 1 [.int .i64 0] 1 [(0, (.c (.v false (.int .i64 2))))], none⟩,
    ⟨some 5, .bsl 1 [.int .i64 0, .int .i64 0] 2 [(0, (.c (.v false (.int .i64 1)))), (1, (.c (.v false (.int .i64 2))))], none⟩,
    ⟨some 6, .bsl 1 [.int .i64 0, .int .i64 0] 2 [(0, (.c (.v false (.int .i64 1)))), (1, (.c (.v false (.int .i64 1))))], none⟩,
    ⟨some 7, .bsl 1 [.int .i64 0, .int .i64 0] 2 [(0, (.c (.v false (.int .i64 2)))), (1, (.c (.v false (.int .i64 1))))], none⟩,
    ⟨some 8, .bsl 1 [.int .i64 0, .int .i64 0, .int .i64 0] 3 [(0, (.c (.v false (.int .i64 1)))), (1, (.c (.v false (.int .i64 2)))), (2, (.c (.v false (.int .i64 1))))], none⟩,
    ⟨some 9, .bsl 1 [.sl 1 [], .sl 1 [], .sl 1 [], .sl 1 [], .sl 1 [], .sl 1 []] 6 [(0, (.t 3)), (1, (.t 4)), (2, (.t 5)), (3, (.t 6)), (4, (.t 7)), (5, (.t 8))], none⟩,
    ⟨some 10, .mv (.t 0), none⟩,
    ⟨some 11, .call 375 [0] [(.t 10), (.c (.v false (.int .i64 6)))], none⟩,
    ⟨some 12, .iad 1 (.t 9) (.t 11), none⟩,
    ⟨some 13, .ld false 1 (.t 12), none⟩,
    ⟨some 2, .mv (.t 13), none⟩] none)
  (.ret))

def pf399 : PF := ⟨[.s 2], [0], pb399⟩

-- loop.example/g00496/spec.l4Vals
def pl401_0 : PC :=
.seq (.seq (.reg [0, 1, 5, 6, 11] [] [
          ⟨some 8, .mv (.t 6), none⟩,
          ⟨some 9, .mv (.t 1), none⟩,
          ⟨some 10, .len (.t 9), none⟩,
          ⟨some 11, .bin .lss (.t 8) (.t 10), none⟩] none)
        (.cond (.t 11) (.skip)
         (.exit 0)))
       (.seq (.blk 1 (.seq (.reg [0, 1, 5, 6, 18] [] [
            ⟨some 14, .mv (.t 1), none⟩,
            ⟨some 15, .mv (.t 6), none⟩,
            ⟨some 16, .iad 1 (.t 14) (.t 15), none⟩,
            ⟨some 17, .ld false 1 (.t 16), none⟩,
            ⟨some 18, .bin .eql (.t 17) (.c (.v false (.int .i64 1))), none⟩] none)
          (.cond (.t 18) (.reg [0, 1, 5, 6] [(23, 5)] [
             ⟨some 19, .mv (.t 5), none⟩,
             ⟨some 20, .mv (.t 0), none⟩,
             ⟨some 21, .call 395 [0] [(.t 20)], none⟩,
             ⟨some 22, .bsl 3 [.int .i64 0, .int .i64 0, .str ⟨#[]⟩] 1 [(0, (.t 21))], none⟩,
             ⟨some 23, .app 3 32 (.t 19) (.t 22), none⟩,
             ⟨some 5, .mv (.t 23), none⟩] none)
           (.reg [0, 1, 5, 6] [(28, 5)] [
             ⟨some 24, .mv (.t 5), none⟩,
             ⟨some 25, .mv (.t 0), none⟩,
             ⟨some 26, .call 396 [0] [(.t 25)], none⟩,
             ⟨some 27, .bsl 3 [.int .i64 0, .int .i64 0, .str ⟨#[]⟩] 1 [(0, (.t 26))], none⟩,
             ⟨some 28, .app 3 32 (.t 24) (.t 27), none⟩,
             ⟨some 5, .mv (.t 28), none⟩] none))))
        (.reg [0, 1, 5, 6] [] [
          ⟨some 12, .mv (.t 6), none⟩,
          ⟨some 13, .bin .add (.t 12) (.c (.v false (.int .i64 1))), none⟩,
          ⟨some 6, .mv (.t 13), none⟩] none))

def pb401 : PC :=
.seq (.reg [0, 1] [] [
   ⟨some 4, .mv (.c (.nl 3)), none⟩] none)
 (.seq (.reg [0, 1, 5] [(7, 5)] [
    ⟨some 7, .bsl 3 [] 0 [], none⟩,
    ⟨some 5, .mv (.t 7), none⟩] none)
  (.seq (.seq (.reg [0, 1, 5, 6] [] [
      ⟨some 6, .mv (.c (.v false (.int .i64 0))), none⟩] none)
    (.blk 0 (.loop pl401_0)))
   (.seq (.reg [0, 4, 5] [] [
      ⟨some 29, .mv (.t 5), none⟩,
      ⟨some 4, .mv (.t 29), none⟩] none)
    (.ret))))

def pf401 : PF := ⟨[.s 4], [0], pb401⟩

end Go.Proofs.Ytkgibccknlbiaaa.OM
