/- The texts of the functions, as the own machine runs them. -/
import Derived.Test.YtkhgflloifjniaaOMDef
set_option linter.all false
namespace Go.Proofs.Ytkhgflloifjniaa.OM
set_option maxRecDepth 100000

-- loop.example/g00496/impl.AddRef
def pb4 : PC :=
.seq (.reg [2, 3, 4] [] [
   ⟨some 2, .box 2 (.t 0), none⟩,
   ⟨some 3, .box 5 (.t 1), none⟩,
   ⟨some 4, .alloc [(.v false (.int .i64 0)), (.nl 5)], none⟩,
   ⟨some 5, .mv (.c (.v false (.bool false))), none⟩] none)
 (.seq (.reg [2, 3, 4, 6] [] [
    ⟨some 7, .ld true 2 (.t 2), none⟩,
    ⟨some 8, .call 71 [] [(.t 7)], none⟩,
    ⟨some 6, .alloc [(.v false (.int .i64 0)), (.nl 5)], none⟩,
    ⟨none, .st 2 (.t 6) (.t 8), none⟩] none)
  (.seq (.reg [2, 4, 6] [] [
     ⟨some 9, .fad (.t 6) 1, none⟩,
     ⟨some 10, .ld false 1 (.t 9), none⟩,
     ⟨some 11, .ld true 5 (.t 3), none⟩,
     ⟨some 12, .bsl 5 [.int .i64 0, .int .i64 0, .int .i64 0, .int .i64 0, .int .i64 0] 1 [(0, (.t 11))], none⟩,
     ⟨some 13, .app 5 40 (.t 10) (.t 12), none⟩,
     ⟨some 14, .fad (.t 6) 1, none⟩,
     ⟨none, .st 1 (.t 14) (.t 13), none⟩] none)
   (.seq (.reg [2, 4, 6] [] [
      ⟨some 15, .fad (.t 6) 0, none⟩,
      ⟨some 16, .ld false 1 (.t 15), none⟩,
      ⟨some 17, .bin .add (.t 16) (.c (.v false (.int .i64 1))), none⟩,
      ⟨some 18, .fad (.t 6) 0, none⟩,
      ⟨none, .st 1 (.t 18) (.t 17), none⟩] none)
    (.seq (.seq (.reg [2, 4, 6, 21] [] [
        ⟨some 19, .ld true 2 (.t 6), none⟩,
        ⟨some 20, .call 15 [] [(.t 19)], none⟩,
        ⟨some 21, .un .not (.t 20), none⟩] none)
      (.cond (.t 21) (.seq (.reg [4, 5] [] [
          ⟨some 22, .ld true 2 (.t 2), none⟩,
          ⟨some 23, .call 71 [] [(.t 22)], none⟩,
          ⟨none, .st 2 (.t 4) (.t 23), none⟩,
          ⟨some 5, .mv (.c (.v false (.bool false))), none⟩] none)
        (.ret))
       (.skip)))
     (.seq (.reg [4, 5] [] [
        ⟨some 24, .ld true 2 (.t 6), none⟩,
        ⟨none, .st 2 (.t 4) (.t 24), none⟩,
        ⟨some 5, .mv (.c (.v false (.bool true))), none⟩] none)
      (.ret))))))

def pf4 : PF := ⟨[.b 4 2 true, .s 5], [], pb4⟩

-- loop.example/g00496/impl.DirOk
def pl15_0 : PC :=
.seq (.reg [1, 3, 16, 17, 18, 19] [] [
          ⟨some 19, .bin .lss (.t 18) (.t 17), none⟩] none)
        (.seq (.cond (.t 19) (.skip)
          (.exit 0))
         (.seq (.blk 1 (.seq (.reg [1, 3, 4, 5, 16, 17, 18] [] [
              ⟨some 20, .mv (.t 18), none⟩,
              ⟨some 21, .iad 5 (.t 16) (.t 18), none⟩,
              ⟨some 22, .ld true 5 (.t 21), none⟩,
              ⟨some 5, .alloc [(.v false (.int .i64 0)), (.v false (.int .i64 0)), (.v false (.int .i64 0)), (.v false (.int .i64 0)), (.v false (.int .i64 0))], none⟩,
              ⟨some 4, .mv (.t 20), none⟩,
              ⟨none, .st 5 (.t 5) (.t 22), none⟩] none)
            (.seq (.seq (.reg [1, 3, 5, 16, 17, 18, 41] [(40, 41)] [
                ⟨some 23, .ld true 5 (.t 5), none⟩,
                ⟨some 24, .call 82 [] [(.t 23)], none⟩,
                ⟨some 25, .un .not (.t 24), none⟩,
                ⟨some 26, .mv (.t 25), none⟩,
                ⟨some 27, .fad (.t 5) 3, some (26, false)⟩,
                ⟨some 28, .ld false 1 (.t 27), some (26, false)⟩,
                ⟨some 29, .mv (.t 3), some (26, false)⟩,
                ⟨some 30, .bin .neq (.t 28) (.t 29), some (26, false)⟩,
                ⟨some 31, .pick (.t 26) (.c (.v false (.bool true))) (.t 30), none⟩,
                ⟨some 32, .mv (.t 31), none⟩,
                ⟨some 33, .fad (.t 1) 1, some (32, false)⟩,
                ⟨some 34, .ld false 1 (.t 33), some (32, false)⟩,
                ⟨some 35, .mv (.t 4), some (32, false)⟩,
                ⟨some 36, .slc 5 (.t 34) none (some (.t 35)), some (32, false)⟩,
                ⟨some 37, .build [(.v false (.int .i64 0)), (.nl 5)] [(1, 1, (.t 36))], some (32, false)⟩,
                ⟨some 38, .fad (.t 5) 0, some (32, false)⟩,
                ⟨some 39, .ld false 1 (.t 38), some (32, false)⟩,
                ⟨some 40, .call 22 [] [(.t 37), (.t 39)], some (32, false)⟩,
                ⟨some 41, .pick (.t 32) (.c (.v false (.bool true))) (.t 40), none⟩] (some []))
              (.cond (.t 41) (.seq (.reg [2] [] [
                  ⟨some 2, .mv (.c (.v false (.bool false))), none⟩] none)
                (.ret))
               (.skip)))
             (.reg [1, 3, 16, 17, 18] [] [
               ⟨some 42, .mv (.t 3), none⟩,
               ⟨some 43, .fad (.t 5) 4, none⟩,
               ⟨some 44, .ld false 1 (.t 43), none⟩,
               ⟨some 45, .bin .add (.t 42) (.t 44), none⟩,
               ⟨some 3, .mv (.t 45), none⟩] none))))
          (.reg [1, 3, 16, 17, 18] [] [
            ⟨some 46, .bin .add (.t 18) (.c (.v false (.int .i64 1))), none⟩,
            ⟨some 18, .mv (.t 46), none⟩] none)))

def pb15 : PC :=
.seq (.reg [1] [] [
   ⟨some 1, .box 2 (.t 0), none⟩,
   ⟨some 2, .mv (.c (.v false (.bool false))), none⟩] none)
 (.seq (.seq (.reg [1, 14] [] [
     ⟨some 6, .fad (.t 1) 0, none⟩,
     ⟨some 7, .ld false 1 (.t 6), none⟩,
     ⟨some 8, .bin .lss (.t 7) (.c (.v false (.int .i64 0))), none⟩,
     ⟨some 9, .mv (.t 8), none⟩,
     ⟨some 10, .fad (.t 1) 1, some (9, false)⟩,
     ⟨some 11, .ld false 1 (.t 10), some (9, false)⟩,
     ⟨some 12, .len (.t 11), some (9, false)⟩,
     ⟨some 13, .bin .gtr (.t 12) (.c (.v false (.int .i64 8))), some (9, false)⟩,
     ⟨some 14, .pick (.t 9) (.c (.v false (.bool true))) (.t 13), none⟩] none)
   (.cond (.t 14) (.seq (.reg [2] [] [
       ⟨some 2, .mv (.c (.v false (.bool false))), none⟩] none)
     (.ret))
    (.skip)))
  (.seq (.reg [1, 3] [] [
     ⟨some 3, .mv (.c (.v false (.int .i64 0))), none⟩] none)
   (.seq (.seq (.reg [1, 3, 16, 17, 18] [] [
       ⟨some 15, .fad (.t 1) 1, none⟩,
       ⟨some 16, .ld false 1 (.t 15), none⟩,
       ⟨some 17, .len (.t 16), none⟩,
       ⟨some 18, .mv (.c (.v false (.int .i64 0))), none⟩] none)
     (.blk 0 (.loop pl15_0)))
    (.seq (.reg [2] [] [
       ⟨some 2, .mv (.c (.v false (.bool true))), none⟩] none)
     (.ret)))))

def pf15 : PF := ⟨[.s 2], [], pb15⟩

-- loop.example/g00496/impl.HasBuf
def pl22_0 : PC :=
.seq (.reg [1, 2, 8, 9, 10, 11] [] [
        ⟨some 11, .bin .lss (.t 10) (.t 9), none⟩] none)
      (.seq (.cond (.t 11) (.skip)
        (.exit 0))
       (.seq (.blk 1 (.seq (.reg [1, 2, 6, 8, 9, 10] [] [
            ⟨some 12, .iad 5 (.t 8) (.t 10), none⟩,
            ⟨some 13, .ld true 5 (.t 12), none⟩,
            ⟨some 6, .alloc [(.v false (.int .i64 0)), (.v false (.int .i64 0)), (.v false (.int .i64 0)), (.v false (.int .i64 0)), (.v false (.int .i64 0))], none⟩,
            ⟨none, .st 5 (.t 6) (.t 13), none⟩] none)
          (.seq (.reg [1, 2, 8, 9, 10, 17] [] [
             ⟨some 14, .fad (.t 6) 0, none⟩,
             ⟨some 15, .ld false 1 (.t 14), none⟩,
             ⟨some 16, .mv (.t 1), none⟩,
             ⟨some 17, .bin .eql (.t 15) (.t 16), none⟩] none)
           (.cond (.t 17) (.seq (.reg [4] [] [
               ⟨some 4, .mv (.c (.v false (.bool true))), none⟩] none)
             (.ret))
            (.skip)))))
        (.reg [1, 2, 8, 9, 10] [] [
          ⟨some 18, .bin .add (.t 10) (.c (.v false (.int .i64 1))), none⟩,
          ⟨some 10, .mv (.t 18), none⟩] none)))

def pb22 : PC :=
.seq (.reg [1, 2] [] [
   ⟨some 2, .box 2 (.t 0), none⟩,
   ⟨some 4, .mv (.c (.v false (.bool false))), none⟩] none)
 (.seq (.seq (.reg [1, 2, 8, 9, 10] [] [
     ⟨some 7, .fad (.t 2) 1, none⟩,
     ⟨some 8, .ld false 1 (.t 7), none⟩,
     ⟨some 9, .len (.t 8), none⟩,
     ⟨some 10, .mv (.c (.v false (.int .i64 0))), none⟩] none)
   (.blk 0 (.loop pl22_0)))
  (.seq (.reg [4] [] [
     ⟨some 4, .mv (.c (.v false (.bool false))), none⟩] none)
   (.ret)))

def pf22 : PF := ⟨[.s 4], [], pb22⟩

-- loop.example/g00496/impl.cloneDir
def pb71 : PC :=
.seq (.reg [1, 2] [] [
   ⟨some 1, .box 2 (.t 0), none⟩,
   ⟨some 2, .alloc [(.v false (.int .i64 0)), (.nl 5)], none⟩] none)
 (.seq (.reg [2] [] [
    ⟨some 3, .fad (.t 1) 0, none⟩,
    ⟨some 4, .ld false 1 (.t 3), none⟩,
    ⟨some 5, .fad (.t 1) 1, none⟩,
    ⟨some 6, .ld false 1 (.t 5), none⟩,
    ⟨some 7, .call 74 [] [(.t 6)], none⟩,
    ⟨some 8, .build [(.v false (.int .i64 0)), (.nl 5)] [(0, 1, (.t 4)), (1, 1, (.t 7))], none⟩,
    ⟨none, .st 2 (.t 2) (.t 8), none⟩] (some [(1, 4)]))
  (.ret))

def pf71 : PF := ⟨[.b 2 2 true], [], pb71⟩

-- loop.example/g00496/impl.cloneRefs
def pb74 : PC :=
.seq (.reg [0] [] [
   ⟨some 2, .mv (.c (.nl 5)), none⟩] none)
 (.seq (.reg [2] [(5, 2)] [
    ⟨some 3, .bsl 5 [] 0 [], none⟩,
    ⟨some 4, .mv (.t 0), none⟩,
    ⟨some 5, .app 5 40 (.t 3) (.t 4), none⟩,
    ⟨some 2, .mv (.t 5), none⟩] none)
  (.ret))

def pf74 : PF := ⟨[.s 2], [], pb74⟩

-- loop.example/g00496/impl.refOk
def pb82 : PC :=
.seq (.reg [1] [] [
   ⟨some 1, .box 5 (.t 0), none⟩,
   ⟨some 2, .mv (.c (.v false (.bool false))), none⟩] none)
 (.seq (.reg [2] [(24, 2)] [
    ⟨some 3, .fad (.t 1) 0, none⟩,
    ⟨some 4, .ld false 1 (.t 3), none⟩,
    ⟨some 5, .bin .geq (.t 4) (.c (.v false (.int .i64 0))), none⟩,
    ⟨some 6, .mv (.t 5), none⟩,
    ⟨some 7, .fad (.t 1) 1, some (6, true)⟩,
    ⟨some 8, .ld false 1 (.t 7), some (6, true)⟩,
    ⟨some 9, .bin .geq (.t 8) (.c (.v false (.int .i64 0))), some (6, true)⟩,
    ⟨some 10, .pick (.t 6) (.t 9) (.c (.v false (.bool false))), none⟩,
    ⟨some 11, .mv (.t 10), none⟩,
    ⟨some 12, .fad (.t 1) 2, some (11, true)⟩,
    ⟨some 13, .ld false 1 (.t 12), some (11, true)⟩,
    ⟨some 14, .bin .eql (.t 13) (.c (.v false (.int .i64 1))), some (11, true)⟩,
    ⟨some 15, .mv (.t 14), some (11, true)⟩,
    ⟨some 16, .fad (.t 1) 2, some (15, false)⟩,
    ⟨some 17, .ld false 1 (.t 16), some (15, false)⟩,
    ⟨some 18, .bin .eql (.t 17) (.c (.v false (.int .i64 2))), some (15, false)⟩,
    ⟨some 19, .pick (.t 15) (.c (.v false (.bool true))) (.t 18), some (11, true)⟩,
    ⟨some 20, .pick (.t 11) (.t 19) (.c (.v false (.bool false))), none⟩,
    ⟨some 21, .mv (.t 20), none⟩,
    ⟨some 22, .fad (.t 1) 4, some (21, true)⟩,
    ⟨some 23, .ld false 1 (.t 22), some (21, true)⟩,
    ⟨some 24, .call 87 [] [(.t 23), (.c (.v false (.int .i64 1))), (.c (.v false (.int .i64 1000000000)))], some (21, true)⟩,
    ⟨some 25, .pick (.t 21) (.t 24) (.c (.v false (.bool false))), none⟩,
    ⟨some 2, .mv (.t 25), none⟩] none)
  (.ret))

def pf82 : PF := ⟨[.s 2], [], pb82⟩

-- loop.example/g00496/impl.within
def pb87 : PC :=
.seq (.reg [0, 1, 2] [] [
   ⟨some 6, .mv (.c (.v false (.bool false))), none⟩] none)
 (.seq (.reg [6] [] [
    ⟨some 7, .mv (.t 0), none⟩,
    ⟨some 8, .mv (.t 1), none⟩,
    ⟨some 9, .bin .geq (.t 7) (.t 8), none⟩,
    ⟨some 10, .mv (.t 9), none⟩,
    ⟨some 11, .mv (.t 0), some (10, true)⟩,
    ⟨some 12, .mv (.t 2), some (10, true)⟩,
    ⟨some 13, .bin .leq (.t 11) (.t 12), some (10, true)⟩,
    ⟨some 14, .pick (.t 10) (.t 13) (.c (.v false (.bool false))), none⟩,
    ⟨some 6, .mv (.t 14), none⟩] none)
  (.ret))

def pf87 : PF := ⟨[.s 6], [], pb87⟩

-- loop.example/g00496/laws.FnExactAddRef
def pb92 : PC :=
.seq (.reg [2, 3] [] [
   ⟨some 2, .box 2 (.t 0), none⟩,
   ⟨some 3, .box 5 (.t 1), none⟩,
   ⟨some 4, .mv (.c (.v false (.bool false))), none⟩] none)
 (.seq (.reg [2, 3, 5] [] [
    ⟨some 5, .mv (.c (.v false (.int .i64 1048576))), none⟩] none)
  (.seq (.reg [2, 3, 5] [(18, 5)] [
     ⟨some 16, .ld true 2 (.t 2), none⟩,
     ⟨some 17, .mv (.t 5), none⟩,
     ⟨some 18, .call 218 [] [(.t 16), (.t 17)], none⟩,
     ⟨some 5, .mv (.t 18), none⟩] none)
   (.seq (.seq (.reg [2, 3, 20] [] [
       ⟨some 19, .mv (.t 5), none⟩,
       ⟨some 20, .bin .lss (.t 19) (.c (.v false (.int .i64 0))), none⟩] none)
     (.cond (.t 20) (.seq (.reg [4] [] [
         ⟨some 4, .mv (.c (.v false (.bool true))), none⟩] none)
       (.ret))
      (.skip)))
    (.seq (.reg [2, 3, 6, 7] [(26, 7)] [
       ⟨some 22, .ld true 2 (.t 2), none⟩,
       ⟨some 23, .call 243 [] [(.t 22)], none⟩,
       ⟨some 24, .ld true 5 (.t 3), none⟩,
       ⟨some 25, .call 248 [] [(.t 24)], none⟩,
       ⟨some 26, .call 260 [] [(.t 23), (.t 25)], none⟩,
       ⟨some 21, .mv (.t 26), none⟩,
       ⟨some 27, .ext (.t 21) 0, none⟩,
       ⟨some 28, .ext (.t 21) 1, none⟩,
       ⟨some 6, .alloc [(.v false (.int .i64 0)), (.nl 5)], none⟩,
       ⟨none, .st 2 (.t 6) (.t 27), none⟩,
       ⟨some 7, .mv (.t 28), none⟩] (some [(1, 2), (0, 8), (1, 8), (2, 8), (3, 8), (4, 8)]))
     (.seq (.reg [2, 3, 6, 7, 8] [] [
        ⟨some 29, .ld true 2 (.t 2), none⟩,
        ⟨some 30, .call 243 [] [(.t 29)], none⟩,
        ⟨some 8, .alloc [(.v false (.int .i64 0)), (.nl 5)], none⟩,
        ⟨none, .st 2 (.t 8) (.t 30), none⟩] none)
      (.seq (.reg [2, 3, 6, 7, 8, 9, 10] [(35, 10)] [
         ⟨some 32, .ld true 2 (.t 8), none⟩,
         ⟨some 33, .ld true 5 (.t 3), none⟩,
         ⟨some 34, .call 248 [] [(.t 33)], none⟩,
         ⟨some 35, .call 4 [] [(.t 32), (.t 34)], none⟩,
         ⟨some 31, .mv (.t 35), none⟩,
         ⟨some 36, .ext (.t 31) 0, none⟩,
         ⟨some 37, .ext (.t 31) 1, none⟩,
         ⟨some 9, .alloc [(.v false (.int .i64 0)), (.nl 5)], none⟩,
         ⟨none, .st 2 (.t 9) (.t 36), none⟩,
         ⟨some 10, .mv (.t 37), none⟩] (some [(0, 2), (0, 7), (1, 7), (2, 7), (3, 7)]))
       (.seq (.seq (.reg [2, 3, 6, 7, 8, 9, 10, 46] [] [
           ⟨some 38, .ld true 2 (.t 9), none⟩,
           ⟨some 39, .ld true 2 (.t 6), none⟩,
           ⟨some 40, .call 151 [] [(.t 38), (.t 39)], none⟩,
           ⟨some 41, .un .not (.t 40), none⟩,
           ⟨some 42, .mv (.t 41), none⟩,
           ⟨some 43, .mv (.t 10), some (42, false)⟩,
           ⟨some 44, .mv (.t 7), some (42, false)⟩,
           ⟨some 45, .eqb true (.t 43) (.t 44), some (42, false)⟩,
           ⟨some 46, .pick (.t 42) (.c (.v false (.bool true))) (.t 45), none⟩] none)
         (.cond (.t 46) (.seq (.reg [4] [] [
             ⟨some 4, .mv (.c (.v false (.bool false))), none⟩] none)
           (.ret))
          (.skip)))
        (.seq (.seq (.reg [2, 3, 6, 7, 8, 9, 10, 51] [] [
            ⟨some 47, .ld true 2 (.t 8), none⟩,
            ⟨some 48, .ld true 2 (.t 2), none⟩,
            ⟨some 49, .call 243 [] [(.t 48)], none⟩,
            ⟨some 50, .call 151 [] [(.t 47), (.t 49)], none⟩,
            ⟨some 51, .un .not (.t 50), none⟩] (some [(0, 2)]))
          (.cond (.t 51) (.seq (.reg [4] [] [
              ⟨some 4, .mv (.c (.v false (.bool false))), none⟩] none)
            (.ret))
           (.skip)))
         (.seq (.reg [2, 3, 6, 7, 8, 9, 10, 11] [] [
            ⟨some 11, .mv (.c (.v false (.int .i64 1))), none⟩] none)
          (.seq (.reg [2, 3, 6, 7, 9, 10, 11] [(54, 11)] [
             ⟨some 52, .ld true 2 (.t 8), none⟩,
             ⟨some 53, .mv (.t 11), none⟩,
             ⟨some 54, .call 189 [0] [(.t 52), (.t 53)], none⟩,
             ⟨some 11, .mv (.t 54), none⟩] none)
           (.seq (.seq (.reg [2, 3, 6, 7, 9, 67] [] [
               ⟨some 55, .mv (.t 11), none⟩,
               ⟨some 56, .bin .lss (.t 55) (.c (.v false (.int .i64 0))), none⟩,
               ⟨some 57, .mv (.t 56), none⟩,
               ⟨some 58, .ld true 2 (.t 9), some (57, false)⟩,
               ⟨some 59, .ld true 2 (.t 6), some (57, false)⟩,
               ⟨some 60, .call 151 [] [(.t 58), (.t 59)], some (57, false)⟩,
               ⟨some 61, .un .not (.t 60), some (57, false)⟩,
               ⟨some 62, .pick (.t 57) (.c (.v false (.bool true))) (.t 61), none⟩,
               ⟨some 63, .mv (.t 62), none⟩,
               ⟨some 64, .mv (.t 10), some (63, false)⟩,
               ⟨some 65, .mv (.t 7), some (63, false)⟩,
               ⟨some 66, .eqb true (.t 64) (.t 65), some (63, false)⟩,
               ⟨some 67, .pick (.t 63) (.c (.v false (.bool true))) (.t 66), none⟩] none)
             (.cond (.t 67) (.seq (.reg [4] [] [
                 ⟨some 4, .mv (.c (.v false (.bool false))), none⟩] none)
               (.ret))
              (.skip)))
            (.seq (.reg [2, 3, 6, 7, 9, 12] [] [
               ⟨some 12, .mv (.c (.v false (.int .i64 1))), none⟩] none)
             (.seq (.reg [2, 3, 6, 7, 9, 12] [(70, 12)] [
                ⟨some 68, .ld true 2 (.t 9), none⟩,
                ⟨some 69, .mv (.t 12), none⟩,
                ⟨some 70, .call 189 [0] [(.t 68), (.t 69)], none⟩,
                ⟨some 12, .mv (.t 70), none⟩] none)
              (.seq (.reg [2, 3, 6, 7, 9, 12, 13] [] [
                 ⟨some 13, .mv (.c (.v false (.int .i64 1))), none⟩] none)
               (.seq (.reg [2, 3, 6, 7, 9, 12, 13] [(73, 13)] [
                  ⟨some 71, .ld true 2 (.t 9), none⟩,
                  ⟨some 72, .mv (.t 13), none⟩,
                  ⟨some 73, .call 174 [] [(.t 71), (.t 72)], none⟩,
                  ⟨some 13, .mv (.t 73), none⟩] none)
                (.seq (.seq (.reg [2, 3, 6, 7, 9, 12, 13, 75] [] [
                    ⟨some 74, .mv (.t 13), none⟩,
                    ⟨some 75, .bin .lss (.t 74) (.c (.v false (.int .i64 0))), none⟩] none)
                  (.cond (.t 75) (.seq (.reg [4] [] [
                      ⟨some 4, .mv (.c (.v false (.bool false))), none⟩] none)
                    (.ret))
                   (.skip)))
                 (.seq (.seq (.reg [2, 3, 6, 7, 9, 12, 78] [] [
                     ⟨some 76, .mv (.t 13), none⟩,
                     ⟨some 77, .mv (.t 12), none⟩,
                     ⟨some 78, .bin .neq (.t 76) (.t 77), none⟩] none)
                   (.cond (.t 78) (.seq (.reg [4] [] [
                       ⟨some 4, .mv (.c (.v false (.bool false))), none⟩] none)
                     (.ret))
                    (.skip)))
                  (.seq (.reg [6, 7, 9, 12, 14, 15] [(84, 15)] [
                     ⟨some 80, .ld true 2 (.t 2), none⟩,
                     ⟨some 81, .call 243 [] [(.t 80)], none⟩,
                     ⟨some 82, .ld true 5 (.t 3), none⟩,
                     ⟨some 83, .call 248 [] [(.t 82)], none⟩,
                     ⟨some 84, .call 4 [] [(.t 81), (.t 83)], none⟩,
                     ⟨some 79, .mv (.t 84), none⟩,
                     ⟨some 85, .ext (.t 79) 0, none⟩,
                     ⟨some 86, .ext (.t 79) 1, none⟩,
                     ⟨some 14, .alloc [(.v false (.int .i64 0)), (.nl 5)], none⟩,
                     ⟨none, .st 2 (.t 14) (.t 85), none⟩,
                     ⟨some 15, .mv (.t 86), none⟩] (some [(1, 2), (0, 8), (1, 8), (2, 8), (3, 8), (4, 8)]))
                   (.seq (.seq (.reg [9, 12, 95] [] [
                       ⟨some 87, .ld true 2 (.t 14), none⟩,
                       ⟨some 88, .ld true 2 (.t 6), none⟩,
                       ⟨some 89, .call 151 [] [(.t 87), (.t 88)], none⟩,
                       ⟨some 90, .un .not (.t 89), none⟩,
                       ⟨some 91, .mv (.t 90), none⟩,
                       ⟨some 92, .mv (.t 15), some (91, false)⟩,
                       ⟨some 93, .mv (.t 7), some (91, false)⟩,
                       ⟨some 94, .eqb true (.t 92) (.t 93), some (91, false)⟩,
                       ⟨some 95, .pick (.t 91) (.c (.v false (.bool true))) (.t 94), none⟩] none)
                     (.cond (.t 95) (.seq (.reg [4] [] [
                         ⟨some 4, .mv (.c (.v false (.bool false))), none⟩] none)
                       (.ret))
                      (.skip)))
                    (.seq (.reg [9, 12, 13] [] [
                       ⟨some 13, .mv (.c (.v false (.int .i64 1))), none⟩] none)
                     (.seq (.reg [12, 13] [(98, 13)] [
                        ⟨some 96, .ld true 2 (.t 9), none⟩,
                        ⟨some 97, .mv (.t 13), none⟩,
                        ⟨some 98, .call 174 [] [(.t 96), (.t 97)], none⟩,
                        ⟨some 13, .mv (.t 98), none⟩] none)
                      (.seq (.seq (.reg [12, 13, 100] [] [
                          ⟨some 99, .mv (.t 13), none⟩,
                          ⟨some 100, .bin .lss (.t 99) (.c (.v false (.int .i64 0))), none⟩] none)
                        (.cond (.t 100) (.seq (.reg [4] [] [
                            ⟨some 4, .mv (.c (.v false (.bool false))), none⟩] none)
                          (.ret))
                         (.skip)))
                       (.seq (.seq (.reg [103] [] [
                           ⟨some 101, .mv (.t 13), none⟩,
                           ⟨some 102, .mv (.t 12), none⟩,
                           ⟨some 103, .bin .neq (.t 101) (.t 102), none⟩] none)
                         (.cond (.t 103) (.seq (.reg [4] [] [
                             ⟨some 4, .mv (.c (.v false (.bool false))), none⟩] none)
                           (.ret))
                          (.skip)))
                        (.seq (.reg [4] [] [
                           ⟨some 4, .mv (.c (.v false (.bool true))), none⟩] none)
                         (.ret)))))))))))))))))))))))))

def pf92 : PF := ⟨[.s 4], [], pb92⟩

-- loop.example/g00496/laws.eqDir
def pb151 : PC :=
.seq (.reg [2, 3] [] [
   ⟨some 2, .box 2 (.t 0), none⟩,
   ⟨some 3, .box 2 (.t 1), none⟩,
   ⟨some 4, .mv (.c (.v false (.bool false))), none⟩] none)
 (.seq (.seq (.reg [2, 3, 9] [] [
     ⟨some 5, .fad (.t 2) 0, none⟩,
     ⟨some 6, .ld false 1 (.t 5), none⟩,
     ⟨some 7, .fad (.t 3) 0, none⟩,
     ⟨some 8, .ld false 1 (.t 7), none⟩,
     ⟨some 9, .bin .neq (.t 6) (.t 8), none⟩] none)
   (.cond (.t 9) (.seq (.reg [4] [] [
       ⟨some 4, .mv (.c (.v false (.bool false))), none⟩] none)
     (.ret))
    (.skip)))
  (.seq (.seq (.reg [15] [] [
      ⟨some 10, .fad (.t 2) 1, none⟩,
      ⟨some 11, .ld false 1 (.t 10), none⟩,
      ⟨some 12, .fad (.t 3) 1, none⟩,
      ⟨some 13, .ld false 1 (.t 12), none⟩,
      ⟨some 14, .call 157 [] [(.t 11), (.t 13)], none⟩,
      ⟨some 15, .un .not (.t 14), none⟩] none)
    (.cond (.t 15) (.seq (.reg [4] [] [
        ⟨some 4, .mv (.c (.v false (.bool false))), none⟩] none)
      (.ret))
     (.skip)))
   (.seq (.reg [4] [] [
      ⟨some 4, .mv (.c (.v false (.bool true))), none⟩] none)
    (.ret))))

def pf151 : PF := ⟨[.s 4], [], pb151⟩

-- loop.example/g00496/laws.eqRef
def pb156 : PC :=
.seq (.reg [2, 3] [] [
   ⟨some 2, .box 5 (.t 0), none⟩,
   ⟨some 3, .box 5 (.t 1), none⟩,
   ⟨some 4, .mv (.c (.v false (.bool false))), none⟩] none)
 (.seq (.seq (.reg [2, 3, 9] [] [
     ⟨some 5, .fad (.t 2) 0, none⟩,
     ⟨some 6, .ld false 1 (.t 5), none⟩,
     ⟨some 7, .fad (.t 3) 0, none⟩,
     ⟨some 8, .ld false 1 (.t 7), none⟩,
     ⟨some 9, .bin .neq (.t 6) (.t 8), none⟩] none)
   (.cond (.t 9) (.seq (.reg [4] [] [
       ⟨some 4, .mv (.c (.v false (.bool false))), none⟩] none)
     (.ret))
    (.skip)))
  (.seq (.seq (.reg [2, 3, 14] [] [
      ⟨some 10, .fad (.t 2) 1, none⟩,
      ⟨some 11, .ld false 1 (.t 10), none⟩,
      ⟨some 12, .fad (.t 3) 1, none⟩,
      ⟨some 13, .ld false 1 (.t 12), none⟩,
      ⟨some 14, .bin .neq (.t 11) (.t 13), none⟩] none)
    (.cond (.t 14) (.seq (.reg [4] [] [
        ⟨some 4, .mv (.c (.v false (.bool false))), none⟩] none)
      (.ret))
     (.skip)))
   (.seq (.seq (.reg [2, 3, 19] [] [
       ⟨some 15, .fad (.t 2) 2, none⟩,
       ⟨some 16, .ld false 1 (.t 15), none⟩,
       ⟨some 17, .fad (.t 3) 2, none⟩,
       ⟨some 18, .ld false 1 (.t 17), none⟩,
       ⟨some 19, .bin .neq (.t 16) (.t 18), none⟩] none)
     (.cond (.t 19) (.seq (.reg [4] [] [
         ⟨some 4, .mv (.c (.v false (.bool false))), none⟩] none)
       (.ret))
      (.skip)))
    (.seq (.seq (.reg [2, 3, 24] [] [
        ⟨some 20, .fad (.t 2) 3, none⟩,
        ⟨some 21, .ld false 1 (.t 20), none⟩,
        ⟨some 22, .fad (.t 3) 3, none⟩,
        ⟨some 23, .ld false 1 (.t 22), none⟩,
        ⟨some 24, .bin .neq (.t 21) (.t 23), none⟩] none)
      (.cond (.t 24) (.seq (.reg [4] [] [
          ⟨some 4, .mv (.c (.v false (.bool false))), none⟩] none)
        (.ret))
       (.skip)))
     (.seq (.seq (.reg [29] [] [
         ⟨some 25, .fad (.t 2) 4, none⟩,
         ⟨some 26, .ld false 1 (.t 25), none⟩,
         ⟨some 27, .fad (.t 3) 4, none⟩,
         ⟨some 28, .ld false 1 (.t 27), none⟩,
         ⟨some 29, .bin .neq (.t 26) (.t 28), none⟩] none)
       (.cond (.t 29) (.seq (.reg [4] [] [
           ⟨some 4, .mv (.c (.v false (.bool false))), none⟩] none)
         (.ret))
        (.skip)))
      (.seq (.reg [4] [] [
         ⟨some 4, .mv (.c (.v false (.bool true))), none⟩] none)
       (.ret)))))))

def pf156 : PF := ⟨[.s 4], [], pb156⟩

-- loop.example/g00496/laws.eqRefS
def pl157_0 : PC :=
.seq (.seq (.reg [0, 1, 5, 14] [] [
          ⟨some 11, .mv (.t 5), none⟩,
          ⟨some 12, .mv (.t 0), none⟩,
          ⟨some 13, .len (.t 12), none⟩,
          ⟨some 14, .bin .lss (.t 11) (.t 13), none⟩] none)
        (.cond (.t 14) (.skip)
         (.exit 0)))
       (.seq (.blk 1 (.seq (.reg [0, 1, 5, 26] [] [
            ⟨some 17, .mv (.t 0), none⟩,
            ⟨some 18, .mv (.t 5), none⟩,
            ⟨some 19, .iad 5 (.t 17) (.t 18), none⟩,
            ⟨some 20, .ld true 5 (.t 19), none⟩,
            ⟨some 21, .mv (.t 1), none⟩,
            ⟨some 22, .mv (.t 5), none⟩,
            ⟨some 23, .iad 5 (.t 21) (.t 22), none⟩,
            ⟨some 24, .ld true 5 (.t 23), none⟩,
            ⟨some 25, .call 156 [] [(.t 20), (.t 24)], none⟩,
            ⟨some 26, .un .not (.t 25), none⟩] (some []))
          (.cond (.t 26) (.seq (.reg [4] [] [
              ⟨some 4, .mv (.c (.v false (.bool false))), none⟩] none)
            (.ret))
           (.skip))))
        (.reg [0, 1, 5] [] [
          ⟨some 15, .mv (.t 5), none⟩,
          ⟨some 16, .bin .add (.t 15) (.c (.v false (.int .i64 1))), none⟩,
          ⟨some 5, .mv (.t 16), none⟩] none))

def pb157 : PC :=
.seq (.reg [0, 1] [] [
   ⟨some 4, .mv (.c (.v false (.bool false))), none⟩] none)
 (.seq (.seq (.reg [0, 1, 10] [] [
     ⟨some 6, .mv (.t 0), none⟩,
     ⟨some 7, .len (.t 6), none⟩,
     ⟨some 8, .mv (.t 1), none⟩,
     ⟨some 9, .len (.t 8), none⟩,
     ⟨some 10, .bin .neq (.t 7) (.t 9), none⟩] none)
   (.cond (.t 10) (.seq (.reg [4] [] [
       ⟨some 4, .mv (.c (.v false (.bool false))), none⟩] none)
     (.ret))
    (.skip)))
  (.seq (.seq (.reg [0, 1, 5] [] [
      ⟨some 5, .mv (.c (.v false (.int .i64 0))), none⟩] none)
    (.blk 0 (.loop pl157_0)))
   (.seq (.reg [4] [] [
      ⟨some 4, .mv (.c (.v false (.bool true))), none⟩] none)
    (.ret))))

def pf157 : PF := ⟨[.s 4], [], pb157⟩

-- loop.example/g00496/laws.heldDir
def pb174 : PC :=
.seq (.reg [1, 2] [] [
   ⟨some 2, .box 2 (.t 0), none⟩,
   ⟨some 4, .mv (.c (.v false (.int .i64 0))), none⟩] none)
 (.seq (.reg [1] [(8, 1)] [
    ⟨some 5, .fad (.t 2) 1, none⟩,
    ⟨some 6, .ld false 1 (.t 5), none⟩,
    ⟨some 7, .mv (.t 1), none⟩,
    ⟨some 8, .call 177 [] [(.t 6), (.t 7)], none⟩,
    ⟨some 1, .mv (.t 8), none⟩] none)
  (.seq (.seq (.reg [1, 10] [] [
      ⟨some 9, .mv (.t 1), none⟩,
      ⟨some 10, .bin .lss (.t 9) (.c (.v false (.int .i64 0))), none⟩] none)
    (.cond (.t 10) (.seq (.reg [4] [] [
        ⟨some 4, .mv (.c (.v false (.int .i64 (-1)))), none⟩] none)
      (.ret))
     (.skip)))
   (.seq (.reg [1, 4] [] [
      ⟨some 11, .mv (.t 1), none⟩,
      ⟨some 4, .mv (.t 11), none⟩] none)
    (.ret))))

def pf174 : PF := ⟨[.s 4], [], pb174⟩

-- loop.example/g00496/laws.heldRefS
def pl177_0 : PC :=
.seq (.seq (.reg [0, 1, 5, 9] [] [
         ⟨some 6, .mv (.t 5), none⟩,
         ⟨some 7, .mv (.t 0), none⟩,
         ⟨some 8, .len (.t 7), none⟩,
         ⟨some 9, .bin .lss (.t 6) (.t 8), none⟩] none)
       (.cond (.t 9) (.skip)
        (.exit 0)))
      (.seq (.blk 1 (.seq (.seq (.reg [0, 1, 5, 18] [] [
            ⟨some 12, .mv (.t 0), none⟩,
            ⟨some 13, .mv (.t 5), none⟩,
            ⟨some 14, .iad 5 (.t 12) (.t 13), none⟩,
            ⟨some 15, .fad (.t 14) 0, none⟩,
            ⟨some 16, .ld false 1 (.t 15), none⟩,
            ⟨some 17, .mv (.t 1), none⟩,
            ⟨some 18, .bin .neq (.t 16) (.t 17), none⟩] none)
          (.cond (.t 18) (.seq (.reg [4] [] [
              ⟨some 4, .mv (.c (.v false (.int .i64 (-1)))), none⟩] none)
            (.ret))
           (.skip)))
         (.seq (.reg [0, 1, 5] [] [
            ⟨some 19, .mv (.t 1), none⟩,
            ⟨some 20, .bin .add (.t 19) (.c (.v false (.int .i64 1))), none⟩,
            ⟨some 1, .mv (.t 20), none⟩] none)
          (.seq (.seq (.reg [0, 1, 5, 27] [] [
              ⟨some 21, .mv (.t 0), none⟩,
              ⟨some 22, .mv (.t 5), none⟩,
              ⟨some 23, .iad 5 (.t 21) (.t 22), none⟩,
              ⟨some 24, .fad (.t 23) 1, none⟩,
              ⟨some 25, .ld false 1 (.t 24), none⟩,
              ⟨some 26, .mv (.t 1), none⟩,
              ⟨some 27, .bin .neq (.t 25) (.t 26), none⟩] none)
            (.cond (.t 27) (.seq (.reg [4] [] [
                ⟨some 4, .mv (.c (.v false (.int .i64 (-1)))), none⟩] none)
              (.ret))
             (.skip)))
           (.seq (.reg [0, 1, 5] [] [
              ⟨some 28, .mv (.t 1), none⟩,
              ⟨some 29, .bin .add (.t 28) (.c (.v false (.int .i64 1))), none⟩,
              ⟨some 1, .mv (.t 29), none⟩] none)
            (.seq (.seq (.reg [0, 1, 5, 36] [] [
                ⟨some 30, .mv (.t 0), none⟩,
                ⟨some 31, .mv (.t 5), none⟩,
                ⟨some 32, .iad 5 (.t 30) (.t 31), none⟩,
                ⟨some 33, .fad (.t 32) 2, none⟩,
                ⟨some 34, .ld false 1 (.t 33), none⟩,
                ⟨some 35, .mv (.t 1), none⟩,
                ⟨some 36, .bin .neq (.t 34) (.t 35), none⟩] none)
              (.cond (.t 36) (.seq (.reg [4] [] [
                  ⟨some 4, .mv (.c (.v false (.int .i64 (-1)))), none⟩] none)
                (.ret))
               (.skip)))
             (.seq (.reg [0, 1, 5] [] [
                ⟨some 37, .mv (.t 1), none⟩,
                ⟨some 38, .bin .add (.t 37) (.c (.v false (.int .i64 1))), none⟩,
                ⟨some 1, .mv (.t 38), none⟩] none)
              (.seq (.seq (.reg [0, 1, 5, 45] [] [
                  ⟨some 39, .mv (.t 0), none⟩,
                  ⟨some 40, .mv (.t 5), none⟩,
                  ⟨some 41, .iad 5 (.t 39) (.t 40), none⟩,
                  ⟨some 42, .fad (.t 41) 3, none⟩,
                  ⟨some 43, .ld false 1 (.t 42), none⟩,
                  ⟨some 44, .mv (.t 1), none⟩,
                  ⟨some 45, .bin .neq (.t 43) (.t 44), none⟩] none)
                (.cond (.t 45) (.seq (.reg [4] [] [
                    ⟨some 4, .mv (.c (.v false (.int .i64 (-1)))), none⟩] none)
                  (.ret))
                 (.skip)))
               (.seq (.reg [0, 1, 5] [] [
                  ⟨some 46, .mv (.t 1), none⟩,
                  ⟨some 47, .bin .add (.t 46) (.c (.v false (.int .i64 1))), none⟩,
                  ⟨some 1, .mv (.t 47), none⟩] none)
                (.seq (.seq (.reg [0, 1, 5, 54] [] [
                    ⟨some 48, .mv (.t 0), none⟩,
                    ⟨some 49, .mv (.t 5), none⟩,
                    ⟨some 50, .iad 5 (.t 48) (.t 49), none⟩,
                    ⟨some 51, .fad (.t 50) 4, none⟩,
                    ⟨some 52, .ld false 1 (.t 51), none⟩,
                    ⟨some 53, .mv (.t 1), none⟩,
                    ⟨some 54, .bin .neq (.t 52) (.t 53), none⟩] none)
                  (.cond (.t 54) (.seq (.reg [4] [] [
                      ⟨some 4, .mv (.c (.v false (.int .i64 (-1)))), none⟩] none)
                    (.ret))
                   (.skip)))
                 (.reg [0, 1, 5] [] [
                   ⟨some 55, .mv (.t 1), none⟩,
                   ⟨some 56, .bin .add (.t 55) (.c (.v false (.int .i64 1))), none⟩,
                   ⟨some 1, .mv (.t 56), none⟩] none)))))))))))
       (.reg [0, 1, 5] [] [
         ⟨some 10, .mv (.t 5), none⟩,
         ⟨some 11, .bin .add (.t 10) (.c (.v false (.int .i64 1))), none⟩,
         ⟨some 5, .mv (.t 11), none⟩] none))

def pb177 : PC :=
.seq (.reg [0, 1] [] [
   ⟨some 4, .mv (.c (.v false (.int .i64 0))), none⟩] none)
 (.seq (.seq (.reg [0, 1, 5] [] [
     ⟨some 5, .mv (.c (.v false (.int .i64 0))), none⟩] none)
   (.blk 0 (.loop pl177_0)))
  (.seq (.reg [4] [] [
     ⟨some 57, .mv (.t 1), none⟩,
     ⟨some 4, .mv (.t 57), none⟩] none)
   (.ret)))

def pf177 : PF := ⟨[.s 4], [], pb177⟩

-- loop.example/g00496/laws.markDir
def pb189 : PC :=
.seq (.reg [0, 1, 2] [] [
   ⟨some 2, .box 2 (.t 0), none⟩,
   ⟨some 4, .mv (.c (.v false (.int .i64 0))), none⟩] none)
 (.seq (.reg [0, 1] [(8, 1)] [
    ⟨some 5, .fad (.t 2) 1, none⟩,
    ⟨some 6, .ld false 1 (.t 5), none⟩,
    ⟨some 7, .mv (.t 1), none⟩,
    ⟨some 8, .call 192 [0] [(.t 6), (.t 7)], none⟩,
    ⟨some 1, .mv (.t 8), none⟩] none)
  (.seq (.reg [0, 1, 4] [] [
     ⟨some 9, .mv (.t 1), none⟩,
     ⟨some 4, .mv (.t 9), none⟩] none)
   (.ret)))

def pf189 : PF := ⟨[.s 4], [0], pb189⟩

-- loop.example/g00496/laws.markRefS
def pl192_0 : PC :=
.seq (.seq (.reg [0, 1, 5, 9] [] [
         ⟨some 6, .mv (.t 5), none⟩,
         ⟨some 7, .mv (.t 0), none⟩,
         ⟨some 8, .len (.t 7), none⟩,
         ⟨some 9, .bin .lss (.t 6) (.t 8), none⟩] none)
       (.cond (.t 9) (.skip)
        (.exit 0)))
      (.seq (.blk 1 (.seq (.reg [0, 1, 5] [] [
           ⟨some 12, .mv (.t 0), none⟩,
           ⟨some 13, .mv (.t 5), none⟩,
           ⟨some 14, .mv (.t 1), none⟩,
           ⟨some 15, .iad 5 (.t 12) (.t 13), none⟩,
           ⟨some 16, .fad (.t 15) 0, none⟩,
           ⟨none, .st 1 (.t 16) (.t 14), none⟩] none)
         (.seq (.reg [0, 1, 5] [] [
            ⟨some 17, .mv (.t 1), none⟩,
            ⟨some 18, .bin .add (.t 17) (.c (.v false (.int .i64 1))), none⟩,
            ⟨some 1, .mv (.t 18), none⟩] none)
          (.seq (.reg [0, 1, 5] [] [
             ⟨some 19, .mv (.t 0), none⟩,
             ⟨some 20, .mv (.t 5), none⟩,
             ⟨some 21, .mv (.t 1), none⟩,
             ⟨some 22, .iad 5 (.t 19) (.t 20), none⟩,
             ⟨some 23, .fad (.t 22) 1, none⟩,
             ⟨none, .st 1 (.t 23) (.t 21), none⟩] none)
           (.seq (.reg [0, 1, 5] [] [
              ⟨some 24, .mv (.t 1), none⟩,
              ⟨some 25, .bin .add (.t 24) (.c (.v false (.int .i64 1))), none⟩,
              ⟨some 1, .mv (.t 25), none⟩] none)
            (.seq (.reg [0, 1, 5] [] [
               ⟨some 26, .mv (.t 0), none⟩,
               ⟨some 27, .mv (.t 5), none⟩,
               ⟨some 28, .mv (.t 1), none⟩,
               ⟨some 29, .iad 5 (.t 26) (.t 27), none⟩,
               ⟨some 30, .fad (.t 29) 2, none⟩,
               ⟨none, .st 1 (.t 30) (.t 28), none⟩] none)
             (.seq (.reg [0, 1, 5] [] [
                ⟨some 31, .mv (.t 1), none⟩,
                ⟨some 32, .bin .add (.t 31) (.c (.v false (.int .i64 1))), none⟩,
                ⟨some 1, .mv (.t 32), none⟩] none)
              (.seq (.reg [0, 1, 5] [] [
                 ⟨some 33, .mv (.t 0), none⟩,
                 ⟨some 34, .mv (.t 5), none⟩,
                 ⟨some 35, .mv (.t 1), none⟩,
                 ⟨some 36, .iad 5 (.t 33) (.t 34), none⟩,
                 ⟨some 37, .fad (.t 36) 3, none⟩,
                 ⟨none, .st 1 (.t 37) (.t 35), none⟩] none)
               (.seq (.reg [0, 1, 5] [] [
                  ⟨some 38, .mv (.t 1), none⟩,
                  ⟨some 39, .bin .add (.t 38) (.c (.v false (.int .i64 1))), none⟩,
                  ⟨some 1, .mv (.t 39), none⟩] none)
                (.seq (.reg [0, 1, 5] [] [
                   ⟨some 40, .mv (.t 0), none⟩,
                   ⟨some 41, .mv (.t 5), none⟩,
                   ⟨some 42, .mv (.t 1), none⟩,
                   ⟨some 43, .iad 5 (.t 40) (.t 41), none⟩,
                   ⟨some 44, .fad (.t 43) 4, none⟩,
                   ⟨none, .st 1 (.t 44) (.t 42), none⟩] none)
                 (.reg [0, 1, 5] [] [
                   ⟨some 45, .mv (.t 1), none⟩,
                   ⟨some 46, .bin .add (.t 45) (.c (.v false (.int .i64 1))), none⟩,
                   ⟨some 1, .mv (.t 46), none⟩] none)))))))))))
       (.reg [0, 1, 5] [] [
         ⟨some 10, .mv (.t 5), none⟩,
         ⟨some 11, .bin .add (.t 10) (.c (.v false (.int .i64 1))), none⟩,
         ⟨some 5, .mv (.t 11), none⟩] none))

def pb192 : PC :=
.seq (.reg [0, 1] [] [
   ⟨some 4, .mv (.c (.v false (.int .i64 0))), none⟩] none)
 (.seq (.seq (.reg [0, 1, 5] [] [
     ⟨some 5, .mv (.c (.v false (.int .i64 0))), none⟩] none)
   (.blk 0 (.loop pl192_0)))
  (.seq (.reg [0, 4] [] [
     ⟨some 47, .mv (.t 1), none⟩,
     ⟨some 4, .mv (.t 47), none⟩] none)
   (.ret)))

def pf192 : PF := ⟨[.s 4], [0], pb192⟩

-- loop.example/g00496/laws.szDir
def pb218 : PC :=
.seq (.reg [1, 2] [] [
   ⟨some 2, .box 2 (.t 0), none⟩,
   ⟨some 4, .mv (.c (.v false (.int .i64 0))), none⟩] none)
 (.seq (.reg [1] [(8, 1)] [
    ⟨some 5, .fad (.t 2) 1, none⟩,
    ⟨some 6, .ld false 1 (.t 5), none⟩,
    ⟨some 7, .mv (.t 1), none⟩,
    ⟨some 8, .call 223 [] [(.t 6), (.t 7)], none⟩,
    ⟨some 1, .mv (.t 8), none⟩] none)
  (.seq (.seq (.reg [1, 10] [] [
      ⟨some 9, .mv (.t 1), none⟩,
      ⟨some 10, .bin .lss (.t 9) (.c (.v false (.int .i64 0))), none⟩] none)
    (.cond (.t 10) (.seq (.reg [4] [] [
        ⟨some 4, .mv (.c (.v false (.int .i64 (-1)))), none⟩] none)
      (.ret))
     (.skip)))
   (.seq (.reg [1, 4] [] [
      ⟨some 11, .mv (.t 1), none⟩,
      ⟨some 4, .mv (.t 11), none⟩] none)
    (.ret))))

def pf218 : PF := ⟨[.s 4], [], pb218⟩

-- loop.example/g00496/laws.szRefS
def pb223 : PC :=
.seq (.reg [0, 1] [] [
   ⟨some 4, .mv (.c (.v false (.int .i64 0))), none⟩] none)
 (.seq (.reg [1] [] [
    ⟨some 5, .mv (.t 1), none⟩,
    ⟨some 6, .mv (.t 0), none⟩,
    ⟨some 7, .len (.t 6), none⟩,
    ⟨some 8, .bin .sub (.t 5) (.t 7), none⟩,
    ⟨some 1, .mv (.t 8), none⟩] none)
  (.seq (.seq (.reg [1, 10] [] [
      ⟨some 9, .mv (.t 1), none⟩,
      ⟨some 10, .bin .lss (.t 9) (.c (.v false (.int .i64 0))), none⟩] none)
    (.cond (.t 10) (.seq (.reg [4] [] [
        ⟨some 4, .mv (.c (.v false (.int .i64 (-1)))), none⟩] none)
      (.ret))
     (.skip)))
   (.seq (.reg [4] [] [
      ⟨some 11, .mv (.t 1), none⟩,
      ⟨some 4, .mv (.t 11), none⟩] none)
    (.ret))))

def pf223 : PF := ⟨[.s 4], [], pb223⟩

-- loop.example/g00496/laws.toDir
def pb243 : PC :=
.seq (.reg [1, 2] [] [
   ⟨some 1, .box 2 (.t 0), none⟩,
   ⟨some 2, .alloc [(.v false (.int .i64 0)), (.nl 5)], none⟩] none)
 (.seq (.reg [1, 2, 3] [] [
    ⟨some 3, .alloc [(.v false (.int .i64 0)), (.nl 5)], none⟩] none)
  (.seq (.reg [1, 2, 3] [] [
     ⟨some 4, .fad (.t 1) 0, none⟩,
     ⟨some 5, .ld false 1 (.t 4), none⟩,
     ⟨some 6, .fad (.t 3) 0, none⟩,
     ⟨none, .st 1 (.t 6) (.t 5), none⟩] none)
   (.seq (.reg [2, 3] [] [
      ⟨some 7, .fad (.t 1) 1, none⟩,
      ⟨some 8, .ld false 1 (.t 7), none⟩,
      ⟨some 9, .call 249 [] [(.t 8)], none⟩,
      ⟨some 10, .fad (.t 3) 1, none⟩,
      ⟨none, .st 1 (.t 10) (.t 9), none⟩] none)
    (.seq (.reg [2] [] [
       ⟨some 11, .ld true 2 (.t 3), none⟩,
       ⟨none, .st 2 (.t 2) (.t 11), none⟩] none)
     (.ret)))))

def pf243 : PF := ⟨[.b 2 2 true], [], pb243⟩

-- loop.example/g00496/laws.toRef
def pb248 : PC :=
.seq (.reg [1, 2] [] [
   ⟨some 1, .box 5 (.t 0), none⟩,
   ⟨some 2, .alloc [(.v false (.int .i64 0)), (.v false (.int .i64 0)), (.v false (.int .i64 0)), (.v false (.int .i64 0)), (.v false (.int .i64 0))], none⟩] none)
 (.seq (.reg [1, 2, 3] [] [
    ⟨some 3, .alloc [(.v false (.int .i64 0)), (.v false (.int .i64 0)), (.v false (.int .i64 0)), (.v false (.int .i64 0)), (.v false (.int .i64 0))], none⟩] none)
  (.seq (.reg [1, 2, 3] [] [
     ⟨some 4, .fad (.t 1) 0, none⟩,
     ⟨some 5, .ld false 1 (.t 4), none⟩,
     ⟨some 6, .fad (.t 3) 0, none⟩,
     ⟨none, .st 1 (.t 6) (.t 5), none⟩] none)
   (.seq (.reg [1, 2, 3] [] [
      ⟨some 7, .fad (.t 1) 1, none⟩,
      ⟨some 8, .ld false 1 (.t 7), none⟩,
      ⟨some 9, .fad (.t 3) 1, none⟩,
      ⟨none, .st 1 (.t 9) (.t 8), none⟩] none)
    (.seq (.reg [1, 2, 3] [] [
       ⟨some 10, .fad (.t 1) 2, none⟩,
       ⟨some 11, .ld false 1 (.t 10), none⟩,
       ⟨some 12, .fad (.t 3) 2, none⟩,
       ⟨none, .st 1 (.t 12) (.t 11), none⟩] none)
     (.seq (.reg [1, 2, 3] [] [
        ⟨some 13, .fad (.t 1) 3, none⟩,
        ⟨some 14, .ld false 1 (.t 13), none⟩,
        ⟨some 15, .fad (.t 3) 3, none⟩,
        ⟨none, .st 1 (.t 15) (.t 14), none⟩] none)
      (.seq (.reg [2, 3] [] [
         ⟨some 16, .fad (.t 1) 4, none⟩,
         ⟨some 17, .ld false 1 (.t 16), none⟩,
         ⟨some 18, .fad (.t 3) 4, none⟩,
         ⟨none, .st 1 (.t 18) (.t 17), none⟩] none)
       (.seq (.reg [2] [] [
          ⟨some 19, .ld true 5 (.t 3), none⟩,
          ⟨none, .st 5 (.t 2) (.t 19), none⟩] none)
        (.ret))))))))

def pf248 : PF := ⟨[.b 2 5 true], [], pb248⟩

-- loop.example/g00496/laws.toRefS
def pl249_0 : PC :=
.seq (.seq (.reg [0, 3, 4, 11] [] [
          ⟨some 8, .mv (.t 4), none⟩,
          ⟨some 9, .mv (.t 0), none⟩,
          ⟨some 10, .len (.t 9), none⟩,
          ⟨some 11, .bin .lss (.t 8) (.t 10), none⟩] none)
        (.cond (.t 11) (.skip)
         (.exit 0)))
       (.seq (.blk 1 (.reg [0, 3, 4] [] [
           ⟨some 14, .mv (.t 3), none⟩,
           ⟨some 15, .mv (.t 4), none⟩,
           ⟨some 16, .mv (.t 0), none⟩,
           ⟨some 17, .mv (.t 4), none⟩,
           ⟨some 18, .iad 5 (.t 16) (.t 17), none⟩,
           ⟨some 19, .ld true 5 (.t 18), none⟩,
           ⟨some 20, .call 248 [] [(.t 19)], none⟩,
           ⟨some 21, .iad 5 (.t 14) (.t 15), none⟩,
           ⟨none, .st 5 (.t 21) (.t 20), none⟩] none))
        (.reg [0, 3, 4] [] [
          ⟨some 12, .mv (.t 4), none⟩,
          ⟨some 13, .bin .add (.t 12) (.c (.v false (.int .i64 1))), none⟩,
          ⟨some 4, .mv (.t 13), none⟩] none))

def pb249 : PC :=
.seq (.reg [0] [] [
   ⟨some 2, .mv (.c (.nl 5)), none⟩] none)
 (.seq (.reg [0, 3] [(7, 3)] [
    ⟨some 5, .mv (.t 0), none⟩,
    ⟨some 6, .len (.t 5), none⟩,
    ⟨some 7, .mks 5 40 [.int .i64 0, .int .i64 0, .int .i64 0, .int .i64 0, .int .i64 0] (.t 6), none⟩,
    ⟨some 3, .mv (.t 7), none⟩] none)
  (.seq (.seq (.reg [0, 3, 4] [] [
      ⟨some 4, .mv (.c (.v false (.int .i64 0))), none⟩] none)
    (.blk 0 (.loop pl249_0)))
   (.seq (.reg [2, 3] [] [
      ⟨some 22, .mv (.t 3), none⟩,
      ⟨some 2, .mv (.t 22), none⟩] none)
    (.ret))))

def pf249 : PF := ⟨[.s 2], [], pb249⟩

-- loop.example/g00496/spec.AddRef
def pb260 : PC :=
.seq (.reg [2, 3, 4] [] [
   ⟨some 2, .box 2 (.t 0), none⟩,
   ⟨some 3, .box 5 (.t 1), none⟩,
   ⟨some 4, .alloc [(.v false (.int .i64 0)), (.nl 5)], none⟩,
   ⟨some 5, .mv (.c (.v false (.bool false))), none⟩] none)
 (.seq (.reg [2, 4, 6] [] [
    ⟨some 7, .fad (.t 2) 0, none⟩,
    ⟨some 8, .ld false 1 (.t 7), none⟩,
    ⟨some 9, .bin .add (.t 8) (.c (.v false (.int .i64 1))), none⟩,
    ⟨some 10, .bsl 5 [] 0 [], none⟩,
    ⟨some 11, .fad (.t 2) 1, none⟩,
    ⟨some 12, .ld false 1 (.t 11), none⟩,
    ⟨some 13, .app 5 40 (.t 10) (.t 12), none⟩,
    ⟨some 14, .ld true 5 (.t 3), none⟩,
    ⟨some 15, .bsl 5 [.int .i64 0, .int .i64 0, .int .i64 0, .int .i64 0, .int .i64 0] 1 [(0, (.t 14))], none⟩,
    ⟨some 16, .app 5 40 (.t 13) (.t 15), none⟩,
    ⟨some 17, .build [(.v false (.int .i64 0)), (.nl 5)] [(0, 1, (.t 9)), (1, 1, (.t 16))], none⟩,
    ⟨some 6, .alloc [(.v false (.int .i64 0)), (.nl 5)], none⟩,
    ⟨none, .st 2 (.t 6) (.t 17), none⟩] (some [(1, 3), (3, 5), (1, 6), (3, 7), (6, 7), (1, 8), (3, 8), (5, 8), (6, 8), (1, 9), (1, 11), (3, 11), (5, 11), (6, 11), (7, 11), (8, 11), (9, 11)]))
  (.seq (.seq (.reg [2, 4, 6, 20] [] [
      ⟨some 18, .ld true 2 (.t 6), none⟩,
      ⟨some 19, .call 271 [] [(.t 18)], none⟩,
      ⟨some 20, .un .not (.t 19), none⟩] none)
    (.cond (.t 20) (.seq (.reg [4, 5] [] [
        ⟨some 21, .ld true 2 (.t 2), none⟩,
        ⟨some 22, .call 368 [] [(.t 21)], none⟩,
        ⟨none, .st 2 (.t 4) (.t 22), none⟩,
        ⟨some 5, .mv (.c (.v false (.bool false))), none⟩] none)
      (.ret))
     (.skip)))
   (.seq (.reg [4, 5] [] [
      ⟨some 23, .ld true 2 (.t 6), none⟩,
      ⟨none, .st 2 (.t 4) (.t 23), none⟩,
      ⟨some 5, .mv (.c (.v false (.bool true))), none⟩] none)
    (.ret))))

def pf260 : PF := ⟨[.b 4 2 true, .s 5], [], pb260⟩

-- loop.example/g00496/spec.DirOk
def pl271_0 : PC :=
.seq (.seq (.reg [1, 3, 4, 5, 44] [] [
                   ⟨some 42, .mv (.t 5), none⟩,
                   ⟨some 43, .mv (.t 4), none⟩,
                   ⟨some 44, .bin .lss (.t 42) (.t 43), none⟩] none)
                 (.cond (.t 44) (.skip)
                  (.exit 2)))
                (.seq (.blk 3 (.seq (.reg [1, 3, 4, 5, 59] [] [
                     ⟨some 47, .fad (.t 1) 1, none⟩,
                     ⟨some 48, .ld false 1 (.t 47), none⟩,
                     ⟨some 49, .mv (.t 5), none⟩,
                     ⟨some 50, .iad 5 (.t 48) (.t 49), none⟩,
                     ⟨some 51, .fad (.t 50) 0, none⟩,
                     ⟨some 52, .ld false 1 (.t 51), none⟩,
                     ⟨some 53, .fad (.t 1) 1, none⟩,
                     ⟨some 54, .ld false 1 (.t 53), none⟩,
                     ⟨some 55, .mv (.t 4), none⟩,
                     ⟨some 56, .iad 5 (.t 54) (.t 55), none⟩,
                     ⟨some 57, .fad (.t 56) 0, none⟩,
                     ⟨some 58, .ld false 1 (.t 57), none⟩,
                     ⟨some 59, .bin .eql (.t 52) (.t 58), none⟩] (some []))
                   (.cond (.t 59) (.seq (.reg [2] [] [
                       ⟨some 2, .mv (.c (.v false (.bool false))), none⟩] none)
                     (.ret))
                    (.skip))))
                 (.reg [1, 3, 4, 5] [] [
                   ⟨some 45, .mv (.t 5), none⟩,
                   ⟨some 46, .bin .add (.t 45) (.c (.v false (.int .i64 1))), none⟩,
                   ⟨some 5, .mv (.t 46), none⟩] none))

def pl271_1 : PC :=
.seq (.seq (.reg [1, 3, 4, 14] [] [
           ⟨some 10, .mv (.t 4), none⟩,
           ⟨some 11, .fad (.t 1) 1, none⟩,
           ⟨some 12, .ld false 1 (.t 11), none⟩,
           ⟨some 13, .len (.t 12), none⟩,
           ⟨some 14, .bin .lss (.t 10) (.t 13), none⟩] none)
         (.cond (.t 14) (.skip)
          (.exit 0)))
        (.seq (.blk 1 (.seq (.seq (.reg [1, 3, 4, 33] [] [
              ⟨some 17, .fad (.t 1) 1, none⟩,
              ⟨some 18, .ld false 1 (.t 17), none⟩,
              ⟨some 19, .mv (.t 4), none⟩,
              ⟨some 20, .iad 5 (.t 18) (.t 19), none⟩,
              ⟨some 21, .ld true 5 (.t 20), none⟩,
              ⟨some 22, .call 370 [] [(.t 21)], none⟩,
              ⟨some 23, .un .not (.t 22), none⟩,
              ⟨some 24, .mv (.t 23), none⟩,
              ⟨some 25, .fad (.t 1) 1, some (24, false)⟩,
              ⟨some 26, .ld false 1 (.t 25), some (24, false)⟩,
              ⟨some 27, .mv (.t 4), some (24, false)⟩,
              ⟨some 28, .iad 5 (.t 26) (.t 27), some (24, false)⟩,
              ⟨some 29, .fad (.t 28) 3, some (24, false)⟩,
              ⟨some 30, .ld false 1 (.t 29), some (24, false)⟩,
              ⟨some 31, .mv (.t 3), some (24, false)⟩,
              ⟨some 32, .bin .neq (.t 30) (.t 31), some (24, false)⟩,
              ⟨some 33, .pick (.t 24) (.c (.v false (.bool true))) (.t 32), none⟩] none)
            (.cond (.t 33) (.seq (.reg [2] [] [
                ⟨some 2, .mv (.c (.v false (.bool false))), none⟩] none)
              (.ret))
             (.skip)))
           (.seq (.reg [1, 3, 4] [] [
              ⟨some 34, .mv (.t 3), none⟩,
              ⟨some 35, .fad (.t 1) 1, none⟩,
              ⟨some 36, .ld false 1 (.t 35), none⟩,
              ⟨some 37, .mv (.t 4), none⟩,
              ⟨some 38, .iad 5 (.t 36) (.t 37), none⟩,
              ⟨some 39, .fad (.t 38) 4, none⟩,
              ⟨some 40, .ld false 1 (.t 39), none⟩,
              ⟨some 41, .bin .add (.t 34) (.t 40), none⟩,
              ⟨some 3, .mv (.t 41), none⟩] none)
            (.seq (.reg [1, 3, 4, 5] [] [
               ⟨some 5, .mv (.c (.v false (.int .i64 0))), none⟩] none)
             (.blk 2 (.loop pl271_0))))))
         (.reg [1, 3, 4] [] [
           ⟨some 15, .mv (.t 4), none⟩,
           ⟨some 16, .bin .add (.t 15) (.c (.v false (.int .i64 1))), none⟩,
           ⟨some 4, .mv (.t 16), none⟩] none))

def pb271 : PC :=
.seq (.reg [1] [] [
   ⟨some 1, .box 2 (.t 0), none⟩,
   ⟨some 2, .mv (.c (.v false (.bool false))), none⟩] none)
 (.seq (.reg [1, 3] [] [
    ⟨some 3, .mv (.c (.v false (.int .i64 0))), none⟩] none)
  (.seq (.seq (.reg [1, 3, 9] [] [
      ⟨some 6, .fad (.t 1) 1, none⟩,
      ⟨some 7, .ld false 1 (.t 6), none⟩,
      ⟨some 8, .len (.t 7), none⟩,
      ⟨some 9, .bin .gtr (.t 8) (.c (.v false (.int .i64 8))), none⟩] none)
    (.cond (.t 9) (.seq (.reg [2] [] [
        ⟨some 2, .mv (.c (.v false (.bool false))), none⟩] none)
      (.ret))
     (.skip)))
   (.seq (.seq (.reg [1, 3, 4] [] [
       ⟨some 4, .mv (.c (.v false (.int .i64 0))), none⟩] none)
     (.blk 0 (.loop pl271_1)))
    (.seq (.reg [2] [] [
       ⟨some 60, .fad (.t 1) 0, none⟩,
       ⟨some 61, .ld false 1 (.t 60), none⟩,
       ⟨some 62, .bin .geq (.t 61) (.c (.v false (.int .i64 0))), none⟩,
       ⟨some 2, .mv (.t 62), none⟩] none)
     (.ret)))))

def pf271 : PF := ⟨[.s 2], [], pb271⟩

-- loop.example/g00496/spec.l18Copy
def pb368 : PC :=
.seq (.reg [1, 2] [] [
   ⟨some 1, .box 2 (.t 0), none⟩,
   ⟨some 2, .alloc [(.v false (.int .i64 0)), (.nl 5)], none⟩] none)
 (.seq (.reg [2] [] [
    ⟨some 3, .fad (.t 1) 0, none⟩,
    ⟨some 4, .ld false 1 (.t 3), none⟩,
    ⟨some 5, .bsl 5 [] 0 [], none⟩,
    ⟨some 6, .fad (.t 1) 1, none⟩,
    ⟨some 7, .ld false 1 (.t 6), none⟩,
    ⟨some 8, .app 5 40 (.t 5) (.t 7), none⟩,
    ⟨some 9, .build [(.v false (.int .i64 0)), (.nl 5)] [(0, 1, (.t 4)), (1, 1, (.t 8))], none⟩,
    ⟨none, .st 2 (.t 2) (.t 9), none⟩] (some [(1, 2), (2, 4), (1, 5)]))
  (.ret))

def pf368 : PF := ⟨[.b 2 2 true], [], pb368⟩

-- loop.example/g00496/spec.l18RefOk
def pb370 : PC :=
.seq (.reg [1] [] [
   ⟨some 1, .box 5 (.t 0), none⟩,
   ⟨some 2, .mv (.c (.v false (.bool false))), none⟩] none)
 (.seq (.reg [2] [(14, 2)] [
    ⟨some 3, .fad (.t 1) 0, none⟩,
    ⟨some 4, .ld false 1 (.t 3), none⟩,
    ⟨some 5, .bin .geq (.t 4) (.c (.v false (.int .i64 0))), none⟩,
    ⟨some 6, .mv (.t 5), none⟩,
    ⟨some 7, .fad (.t 1) 1, some (6, true)⟩,
    ⟨some 8, .ld false 1 (.t 7), some (6, true)⟩,
    ⟨some 9, .bin .geq (.t 8) (.c (.v false (.int .i64 0))), some (6, true)⟩,
    ⟨some 10, .pick (.t 6) (.t 9) (.c (.v false (.bool false))), none⟩,
    ⟨some 11, .mv (.t 10), none⟩,
    ⟨some 12, .fad (.t 1) 2, some (11, true)⟩,
    ⟨some 13, .ld false 1 (.t 12), some (11, true)⟩,
    ⟨some 14, .call 377 [] [(.t 13), (.c (.v false (.int .i64 1))), (.c (.v false (.int .i64 2)))], some (11, true)⟩,
    ⟨some 15, .pick (.t 11) (.t 14) (.c (.v false (.bool false))), none⟩,
    ⟨some 16, .mv (.t 15), none⟩,
    ⟨some 17, .fad (.t 1) 4, some (16, true)⟩,
    ⟨some 18, .ld false 1 (.t 17), some (16, true)⟩,
    ⟨some 19, .bin .geq (.t 18) (.c (.v false (.int .i64 1))), some (16, true)⟩,
    ⟨some 20, .pick (.t 16) (.t 19) (.c (.v false (.bool false))), none⟩,
    ⟨some 21, .mv (.t 20), none⟩,
    ⟨some 22, .fad (.t 1) 4, some (21, true)⟩,
    ⟨some 23, .ld false 1 (.t 22), some (21, true)⟩,
    ⟨some 24, .bin .leq (.t 23) (.c (.v false (.int .i64 1000000000))), some (21, true)⟩,
    ⟨some 25, .pick (.t 21) (.t 24) (.c (.v false (.bool false))), none⟩,
    ⟨some 2, .mv (.t 25), none⟩] none)
  (.ret))

def pf370 : PF := ⟨[.s 2], [], pb370⟩

-- loop.example/g00496/spec.l1In
def pb377 : PC :=
.seq (.reg [0, 1, 2] [] [
   ⟨some 6, .mv (.c (.v false (.bool false))), none⟩] none)
 (.seq (.reg [6] [] [
    ⟨some 7, .mv (.t 0), none⟩,
    ⟨some 8, .mv (.t 1), none⟩,
    ⟨some 9, .bin .geq (.t 7) (.t 8), none⟩,
    ⟨some 10, .mv (.t 9), none⟩,
    ⟨some 11, .mv (.t 0), some (10, true)⟩,
    ⟨some 12, .mv (.t 2), some (10, true)⟩,
    ⟨some 13, .bin .leq (.t 11) (.t 12), some (10, true)⟩,
    ⟨some 14, .pick (.t 10) (.t 13) (.c (.v false (.bool false))), none⟩,
    ⟨some 6, .mv (.t 14), none⟩] none)
  (.ret))

def pf377 : PF := ⟨[.s 6], [], pb377⟩

end Go.Proofs.Ytkhgflloifjniaa.OM
