/- The texts of the functions, as the own machine runs them. -/
import Derived.Test.YtkhgflloifjniaaOMDef
set_option linter.all false
namespace Go.Proofs.Ytkhgflloifjniaa.OM
set_option maxRecDepth 100000

-- loop.example/g00496/impl.DirOk
def pl15_0 : PC :=
.seq (.reg [1, 3, 16, 17, 18, 19] [] [
          ⟨some 19, .bin .lss (.t 18) (.t 17), none⟩] none)
        (.seq (.cond (.t 19) (.skip)
          (.exit 0))
         (.seq (.blk 1 (.seq (.reg [1, 3, 4, 5, 16, 17, 18] [] [
              ⟨some 20, .mv (.t 18), none⟩,
              ⟨some 21, .iad 5 (.t 16) (.t 18), none⟩,
              ⟨some 22, .ld true 5 (.t 21), none⟩,
              ⟨some 5, .alloc [(.v false (.int .i64 0)), (.v false (.int .i64 0)), (.v false (.int .i64 0)), (.v false (.int .i64 0)), (.v false (.int .i64 0))], none⟩,
              ⟨some 4, .mv (.t 20), none⟩,
              ⟨none, .st 5 (.t 5) (.t 22), none⟩] none)
            (.seq (.seq (.reg [1, 3, 5, 16, 17, 18, 41] [(40, 41)] [
                ⟨some 23, .ld true 5 (.t 5), none⟩,
                ⟨some 24, .call 82 [] [(.t 23)], none⟩,
                ⟨some 25, .un .not (.t 24), none⟩,
                ⟨some 26, .mv (.t 25), none⟩,
                ⟨some 27, .fad (.t 5) 3, some (26, false)⟩,
                ⟨some 28, .ld false 1 (.t 27), some (26, false)⟩,
                ⟨some 29, .mv (.t 3), some (26, false)⟩,
                ⟨some 30, .bin .neq (.t 28) (.t 29), some (26, false)⟩,
                ⟨some 31, .pick (.t 26) (.c (.v false (.bool true))) (.t 30), none⟩,
                ⟨some 32, .mv (.t 31), none⟩,
                ⟨some 33, .fad (.t 1) 1, some (32, false)⟩,
                ⟨some 34, .ld false 1 (.t 33), some (32, false)⟩,
                ⟨some 35, .mv (.t 4), some (32, false)⟩,
                ⟨some 36, .slc 5 (.t 34) none (some (.t 35)), some (32, false)⟩,
                ⟨some 37, .build [(.v false (.int .i64 0)), (.nl 5)] [(1, 1, (.t 36))], some (32, false)⟩,
                ⟨some 38, .fad (.t 5) 0, some (32, false)⟩,
                ⟨some 39, .ld false 1 (.t 38), some (32, false)⟩,
                ⟨some 40, .call 22 [] [(.t 37), (.t 39)], some (32, false)⟩,
                ⟨some 41, .pick (.t 32) (.c (.v false (.bool true))) (.t 40), none⟩] (some []))
              (.cond (.t 41) (.seq (.reg [2] [] [
                  ⟨some 2, .mv (.c (.v false (.bool false))), none⟩] none)
                (.ret))
               (.skip)))
             (.reg [1, 3, 16, 17, 18] [] [
               ⟨some 42, .mv (.t 3), none⟩,
               ⟨some 43, .fad (.t 5) 4, none⟩,
               ⟨some 44, .ld false 1 (.t 43), none⟩,
               ⟨some 45, .bin .add (.t 42) (.t 44), none⟩,
               ⟨some 3, .mv (.t 45), none⟩] none))))
          (.reg [1, 3, 16, 17, 18] [] [
            ⟨some 46, .bin .add (.t 18) (.c (.v false (.int .i64 1))), none⟩,
            ⟨some 18, .mv (.t 46), none⟩] none)))

def pb15 : PC :=
.seq (.reg [1] [] [
   ⟨some 1, .box 2 (.t 0), none⟩,
   ⟨some 2, .mv (.c (.v false (.bool false))), none⟩] none)
 (.seq (.seq (.reg [1, 14] [] [
     ⟨some 6, .fad (.t 1) 0, none⟩,
     ⟨some 7, .ld false 1 (.t 6), none⟩,
     ⟨some 8, .bin .lss (.t 7) (.c (.v false (.int .i64 0))), none⟩,
     ⟨some 9, .mv (.t 8), none⟩,
     ⟨some 10, .fad (.t 1) 1, some (9, false)⟩,
     ⟨some 11, .ld false 1 (.t 10), some (9, false)⟩,
     ⟨some 12, .len (.t 11), some (9, false)⟩,
     ⟨some 13, .bin .gtr (.t 12) (.c (.v false (.int .i64 8))), some (9, false)⟩,
     ⟨some 14, .pick (.t 9) (.c (.v false (.bool true))) (.t 13), none⟩] none)
   (.cond (.t 14) (.seq (.reg [2] [] [
       ⟨some 2, .mv (.c (.v false (.bool false))), none⟩] none)
     (.ret))
    (.skip)))
  (.seq (.reg [1, 3] [] [
     ⟨some 3, .mv (.c (.v false (.int .i64 0))), none⟩] none)
   (.seq (.seq (.reg [1, 3, 16, 17, 18] [] [
       ⟨some 15, .fad (.t 1) 1, none⟩,
       ⟨some 16, .ld false 1 (.t 15), none⟩,
       ⟨some 17, .len (.t 16), none⟩,
       ⟨some 18, .mv (.c (.v false (.int .i64 0))), none⟩] none)
     (.blk 0 (.loop pl15_0)))
    (.seq (.reg [2] [] [
       ⟨some 2, .mv (.c (.v false (.bool true))), none⟩] none)
     (.ret)))))

def pf15 : PF := ⟨[.s 2], [], pb15⟩

-- loop.example/g00496/impl.EndOf
def pb16 : PC :=
.seq (.reg [1] [] [
   ⟨some 1, .box 2 (.t 0), none⟩,
   ⟨some 2, .mv (.c (.v false (.int .i64 0))), none⟩] none)
 (.seq (.seq (.reg [1, 7] [] [
     ⟨some 4, .fad (.t 1) 1, none⟩,
     ⟨some 5, .ld false 1 (.t 4), none⟩,
     ⟨some 6, .len (.t 5), none⟩,
     ⟨some 7, .bin .eql (.t 6) (.c (.v false (.int .i64 0))), none⟩] none)
   (.cond (.t 7) (.seq (.reg [2] [] [
       ⟨some 2, .mv (.c (.v false (.int .i64 0))), none⟩] none)
     (.ret))
    (.skip)))
  (.seq (.reg [3] [] [
     ⟨some 8, .fad (.t 1) 1, none⟩,
     ⟨some 9, .ld false 1 (.t 8), none⟩,
     ⟨some 10, .fad (.t 1) 1, none⟩,
     ⟨some 11, .ld false 1 (.t 10), none⟩,
     ⟨some 12, .len (.t 11), none⟩,
     ⟨some 13, .bin .sub (.t 12) (.c (.v false (.int .i64 1))), none⟩,
     ⟨some 14, .iad 5 (.t 9) (.t 13), none⟩,
     ⟨some 15, .ld true 5 (.t 14), none⟩,
     ⟨some 3, .alloc [(.v false (.int .i64 0)), (.v false (.int .i64 0)), (.v false (.int .i64 0)), (.v false (.int .i64 0)), (.v false (.int .i64 0))], none⟩,
     ⟨none, .st 5 (.t 3) (.t 15), none⟩] none)
   (.seq (.reg [2] [] [
      ⟨some 16, .fad (.t 3) 3, none⟩,
      ⟨some 17, .ld false 1 (.t 16), none⟩,
      ⟨some 18, .fad (.t 3) 4, none⟩,
      ⟨some 19, .ld false 1 (.t 18), none⟩,
      ⟨some 20, .bin .add (.t 17) (.t 19), none⟩,
      ⟨some 2, .mv (.t 20), none⟩] none)
    (.ret))))

def pf16 : PF := ⟨[.s 2], [], pb16⟩

-- loop.example/g00496/impl.HasBuf
def pl22_0 : PC :=
.seq (.reg [1, 2, 8, 9, 10, 11] [] [
        ⟨some 11, .bin .lss (.t 10) (.t 9), none⟩] none)
      (.seq (.cond (.t 11) (.skip)
        (.exit 0))
       (.seq (.blk 1 (.seq (.reg [1, 2, 6, 8, 9, 10] [] [
            ⟨some 12, .iad 5 (.t 8) (.t 10), none⟩,
            ⟨some 13, .ld true 5 (.t 12), none⟩,
            ⟨some 6, .alloc [(.v false (.int .i64 0)), (.v false (.int .i64 0)), (.v false (.int .i64 0)), (.v false (.int .i64 0)), (.v false (.int .i64 0))], none⟩,
            ⟨none, .st 5 (.t 6) (.t 13), none⟩] none)
          (.seq (.reg [1, 2, 8, 9, 10, 17] [] [
             ⟨some 14, .fad (.t 6) 0, none⟩,
             ⟨some 15, .ld false 1 (.t 14), none⟩,
             ⟨some 16, .mv (.t 1), none⟩,
             ⟨some 17, .bin .eql (.t 15) (.t 16), none⟩] none)
           (.cond (.t 17) (.seq (.reg [4] [] [
               ⟨some 4, .mv (.c (.v false (.bool true))), none⟩] none)
             (.ret))
            (.skip)))))
        (.reg [1, 2, 8, 9, 10] [] [
          ⟨some 18, .bin .add (.t 10) (.c (.v false (.int .i64 1))), none⟩,
          ⟨some 10, .mv (.t 18), none⟩] none)))

def pb22 : PC :=
.seq (.reg [1, 2] [] [
   ⟨some 2, .box 2 (.t 0), none⟩,
   ⟨some 4, .mv (.c (.v false (.bool false))), none⟩] none)
 (.seq (.seq (.reg [1, 2, 8, 9, 10] [] [
     ⟨some 7, .fad (.t 2) 1, none⟩,
     ⟨some 8, .ld false 1 (.t 7), none⟩,
     ⟨some 9, .len (.t 8), none⟩,
     ⟨some 10, .mv (.c (.v false (.int .i64 0))), none⟩] none)
   (.blk 0 (.loop pl22_0)))
  (.seq (.reg [4] [] [
     ⟨some 4, .mv (.c (.v false (.bool false))), none⟩] none)
   (.ret)))

def pf22 : PF := ⟨[.s 4], [], pb22⟩

-- loop.example/g00496/impl.SwapRefs
def pb56 : PC :=
.seq (.reg [1, 2, 4, 7, 8] [] [
   ⟨some 4, .box 2 (.t 0), none⟩,
   ⟨some 7, .box 5 (.t 3), none⟩,
   ⟨some 8, .alloc [(.v false (.int .i64 0)), (.nl 5)], none⟩,
   ⟨some 9, .mv (.c (.v false (.bool false))), none⟩] none)
 (.seq (.seq (.reg [1, 2, 4, 7, 8, 32] [] [
     ⟨some 11, .mv (.t 1), none⟩,
     ⟨some 12, .bin .lss (.t 11) (.c (.v false (.int .i64 0))), none⟩,
     ⟨some 13, .mv (.t 12), none⟩,
     ⟨some 14, .mv (.t 1), some (13, false)⟩,
     ⟨some 15, .fad (.t 4) 1, some (13, false)⟩,
     ⟨some 16, .ld false 1 (.t 15), some (13, false)⟩,
     ⟨some 17, .len (.t 16), some (13, false)⟩,
     ⟨some 18, .bin .gtr (.t 14) (.t 17), some (13, false)⟩,
     ⟨some 19, .pick (.t 13) (.c (.v false (.bool true))) (.t 18), none⟩,
     ⟨some 20, .mv (.t 19), none⟩,
     ⟨some 21, .mv (.t 2), some (20, false)⟩,
     ⟨some 22, .bin .lss (.t 21) (.c (.v false (.int .i64 1))), some (20, false)⟩,
     ⟨some 23, .pick (.t 20) (.c (.v false (.bool true))) (.t 22), none⟩,
     ⟨some 24, .mv (.t 23), none⟩,
     ⟨some 25, .mv (.t 2), some (24, false)⟩,
     ⟨some 26, .fad (.t 4) 1, some (24, false)⟩,
     ⟨some 27, .ld false 1 (.t 26), some (24, false)⟩,
     ⟨some 28, .len (.t 27), some (24, false)⟩,
     ⟨some 29, .mv (.t 1), some (24, false)⟩,
     ⟨some 30, .bin .sub (.t 28) (.t 29), some (24, false)⟩,
     ⟨some 31, .bin .gtr (.t 25) (.t 30), some (24, false)⟩,
     ⟨some 32, .pick (.t 24) (.c (.v false (.bool true))) (.t 31), none⟩] none)
   (.cond (.t 32) (.seq (.reg [8, 9] [] [
       ⟨some 33, .ld true 2 (.t 4), none⟩,
       ⟨some 34, .call 71 [] [(.t 33)], none⟩,
       ⟨none, .st 2 (.t 8) (.t 34), none⟩,
       ⟨some 9, .mv (.c (.v false (.bool false))), none⟩] none)
     (.ret))
    (.skip)))
  (.seq (.reg [1, 2, 4, 8, 10] [] [
     ⟨some 35, .fad (.t 4) 0, none⟩,
     ⟨some 36, .ld false 1 (.t 35), none⟩,
     ⟨some 37, .bin .add (.t 36) (.c (.v false (.int .i64 1))), none⟩,
     ⟨some 38, .fad (.t 4) 1, none⟩,
     ⟨some 39, .ld false 1 (.t 38), none⟩,
     ⟨some 40, .mv (.t 1), none⟩,
     ⟨some 41, .slc 5 (.t 39) none (some (.t 40)), none⟩,
     ⟨some 42, .call 74 [] [(.t 41)], none⟩,
     ⟨some 43, .ld true 5 (.t 7), none⟩,
     ⟨some 44, .bsl 5 [.int .i64 0, .int .i64 0, .int .i64 0, .int .i64 0, .int .i64 0] 1 [(0, (.t 43))], none⟩,
     ⟨some 45, .app 5 40 (.t 42) (.t 44), none⟩,
     ⟨some 46, .build [(.v false (.int .i64 0)), (.nl 5)] [(0, 1, (.t 37)), (1, 1, (.t 45))], none⟩,
     ⟨some 10, .alloc [(.v false (.int .i64 0)), (.nl 5)], none⟩,
     ⟨none, .st 2 (.t 10) (.t 46), none⟩] (some [(1, 7), (7, 8), (1, 9), (4, 9), (6, 9), (7, 9), (1, 10), (1, 12), (4, 12), (6, 12), (7, 12), (8, 12), (9, 12), (10, 12)]))
   (.seq (.reg [4, 8, 10] [] [
      ⟨some 47, .fad (.t 10) 1, none⟩,
      ⟨some 48, .ld false 1 (.t 47), none⟩,
      ⟨some 49, .fad (.t 4) 1, none⟩,
      ⟨some 50, .ld false 1 (.t 49), none⟩,
      ⟨some 51, .mv (.t 1), none⟩,
      ⟨some 52, .mv (.t 2), none⟩,
      ⟨some 53, .bin .add (.t 51) (.t 52), none⟩,
      ⟨some 54, .slc 5 (.t 50) (some (.t 53)) none, none⟩,
      ⟨some 55, .app 5 40 (.t 48) (.t 54), none⟩,
      ⟨some 56, .fad (.t 10) 1, none⟩,
      ⟨none, .st 1 (.t 56) (.t 55), none⟩] (some []))
    (.seq (.seq (.reg [4, 8, 10, 66] [] [
        ⟨some 57, .ld true 2 (.t 10), none⟩,
        ⟨some 58, .call 15 [] [(.t 57)], none⟩,
        ⟨some 59, .un .not (.t 58), none⟩,
        ⟨some 60, .mv (.t 59), none⟩,
        ⟨some 61, .ld true 2 (.t 10), some (60, false)⟩,
        ⟨some 62, .call 16 [] [(.t 61)], some (60, false)⟩,
        ⟨some 63, .ld true 2 (.t 4), some (60, false)⟩,
        ⟨some 64, .call 16 [] [(.t 63)], some (60, false)⟩,
        ⟨some 65, .bin .neq (.t 62) (.t 64), some (60, false)⟩,
        ⟨some 66, .pick (.t 60) (.c (.v false (.bool true))) (.t 65), none⟩] (some [(5, 6)]))
      (.cond (.t 66) (.seq (.reg [8, 9] [] [
          ⟨some 67, .ld true 2 (.t 4), none⟩,
          ⟨some 68, .call 71 [] [(.t 67)], none⟩,
          ⟨none, .st 2 (.t 8) (.t 68), none⟩,
          ⟨some 9, .mv (.c (.v false (.bool false))), none⟩] none)
        (.ret))
       (.skip)))
     (.seq (.reg [8, 9] [] [
        ⟨some 69, .ld true 2 (.t 10), none⟩,
        ⟨none, .st 2 (.t 8) (.t 69), none⟩,
        ⟨some 9, .mv (.c (.v false (.bool true))), none⟩] none)
      (.ret))))))

def pf56 : PF := ⟨[.b 8 2 true, .s 9], [], pb56⟩

-- loop.example/g00496/impl.cloneDir
def pb71 : PC :=
.seq (.reg [1, 2] [] [
   ⟨some 1, .box 2 (.t 0), none⟩,
   ⟨some 2, .alloc [(.v false (.int .i64 0)), (.nl 5)], none⟩] none)
 (.seq (.reg [2] [] [
    ⟨some 3, .fad (.t 1) 0, none⟩,
    ⟨some 4, .ld false 1 (.t 3), none⟩,
    ⟨some 5, .fad (.t 1) 1, none⟩,
    ⟨some 6, .ld false 1 (.t 5), none⟩,
    ⟨some 7, .call 74 [] [(.t 6)], none⟩,
    ⟨some 8, .build [(.v false (.int .i64 0)), (.nl 5)] [(0, 1, (.t 4)), (1, 1, (.t 7))], none⟩,
    ⟨none, .st 2 (.t 2) (.t 8), none⟩] (some [(1, 4)]))
  (.ret))

def pf71 : PF := ⟨[.b 2 2 true], [], pb71⟩

-- loop.example/g00496/impl.cloneRefs
def pb74 : PC :=
.seq (.reg [0] [] [
   ⟨some 2, .mv (.c (.nl 5)), none⟩] none)
 (.seq (.reg [2] [(5, 2)] [
    ⟨some 3, .bsl 5 [] 0 [], none⟩,
    ⟨some 4, .mv (.t 0), none⟩,
    ⟨some 5, .app 5 40 (.t 3) (.t 4), none⟩,
    ⟨some 2, .mv (.t 5), none⟩] none)
  (.ret))

def pf74 : PF := ⟨[.s 2], [], pb74⟩

-- loop.example/g00496/impl.refOk
def pb82 : PC :=
.seq (.reg [1] [] [
   ⟨some 1, .box 5 (.t 0), none⟩,
   ⟨some 2, .mv (.c (.v false (.bool false))), none⟩] none)
 (.seq (.reg [2] [(24, 2)] [
    ⟨some 3, .fad (.t 1) 0, none⟩,
    ⟨some 4, .ld false 1 (.t 3), none⟩,
    ⟨some 5, .bin .geq (.t 4) (.c (.v false (.int .i64 0))), none⟩,
    ⟨some 6, .mv (.t 5), none⟩,
    ⟨some 7, .fad (.t 1) 1, some (6, true)⟩,
    ⟨some 8, .ld false 1 (.t 7), some (6, true)⟩,
    ⟨some 9, .bin .geq (.t 8) (.c (.v false (.int .i64 0))), some (6, true)⟩,
    ⟨some 10, .pick (.t 6) (.t 9) (.c (.v false (.bool false))), none⟩,
    ⟨some 11, .mv (.t 10), none⟩,
    ⟨some 12, .fad (.t 1) 2, some (11, true)⟩,
    ⟨some 13, .ld false 1 (.t 12), some (11, true)⟩,
    ⟨some 14, .bin .eql (.t 13) (.c (.v false (.int .i64 1))), some (11, true)⟩,
    ⟨some 15, .mv (.t 14), some (11, true)⟩,
    ⟨some 16, .fad (.t 1) 2, some (15, false)⟩,
    ⟨some 17, .ld false 1 (.t 16), some (15, false)⟩,
    ⟨some 18, .bin .eql (.t 17) (.c (.v false (.int .i64 2))), some (15, false)⟩,
    ⟨some 19, .pick (.t 15) (.c (.v false (.bool true))) (.t 18), some (11, true)⟩,
    ⟨some 20, .pick (.t 11) (.t 19) (.c (.v false (.bool false))), none⟩,
    ⟨some 21, .mv (.t 20), none⟩,
    ⟨some 22, .fad (.t 1) 4, some (21, true)⟩,
    ⟨some 23, .ld false 1 (.t 22), some (21, true)⟩,
    ⟨some 24, .call 87 [] [(.t 23), (.c (.v false (.int .i64 1))), (.c (.v false (.int .i64 1000000000)))], some (21, true)⟩,
    ⟨some 25, .pick (.t 21) (.t 24) (.c (.v false (.bool false))), none⟩,
    ⟨some 2, .mv (.t 25), none⟩] none)
  (.ret))

def pf82 : PF := ⟨[.s 2], [], pb82⟩

-- loop.example/g00496/impl.within
def pb87 : PC :=
.seq (.reg [0, 1, 2] [] [
   ⟨some 6, .mv (.c (.v false (.bool false))), none⟩] none)
 (.seq (.reg [6] [] [
    ⟨some 7, .mv (.t 0), none⟩,
    ⟨some 8, .mv (.t 1), none⟩,
    ⟨some 9, .bin .geq (.t 7) (.t 8), none⟩,
    ⟨some 10, .mv (.t 9), none⟩,
    ⟨some 11, .mv (.t 0), some (10, true)⟩,
    ⟨some 12, .mv (.t 2), some (10, true)⟩,
    ⟨some 13, .bin .leq (.t 11) (.t 12), some (10, true)⟩,
    ⟨some 14, .pick (.t 10) (.t 13) (.c (.v false (.bool false))), none⟩,
    ⟨some 6, .mv (.t 14), none⟩] none)
  (.ret))

def pf87 : PF := ⟨[.s 6], [], pb87⟩

-- loop.example/g00496/laws.FnExactSwapRefs
def pb130 : PC :=
.seq (.reg [1, 2, 4, 7] [] [
   ⟨some 4, .box 2 (.t 0), none⟩,
   ⟨some 7, .box 5 (.t 3), none⟩,
   ⟨some 8, .mv (.c (.v false (.bool false))), none⟩] none)
 (.seq (.reg [1, 2, 4, 7, 9] [] [
    ⟨some 9, .mv (.c (.v false (.int .i64 1048576))), none⟩] none)
  (.seq (.reg [1, 2, 4, 7, 9] [(22, 9)] [
     ⟨some 20, .ld true 2 (.t 4), none⟩,
     ⟨some 21, .mv (.t 9), none⟩,
     ⟨some 22, .call 218 [] [(.t 20), (.t 21)], none⟩,
     ⟨some 9, .mv (.t 22), none⟩] none)
   (.seq (.seq (.reg [1, 2, 4, 7, 24] [] [
       ⟨some 23, .mv (.t 9), none⟩,
       ⟨some 24, .bin .lss (.t 23) (.c (.v false (.int .i64 0))), none⟩] none)
     (.cond (.t 24) (.seq (.reg [8] [] [
         ⟨some 8, .mv (.c (.v false (.bool true))), none⟩] none)
       (.ret))
      (.skip)))
    (.seq (.reg [1, 2, 4, 7, 10, 11] [(32, 11)] [
       ⟨some 26, .ld true 2 (.t 4), none⟩,
       ⟨some 27, .call 243 [] [(.t 26)], none⟩,
       ⟨some 28, .mv (.t 1), none⟩,
       ⟨some 29, .mv (.t 2), none⟩,
       ⟨some 30, .ld true 5 (.t 7), none⟩,
       ⟨some 31, .call 248 [] [(.t 30)], none⟩,
       ⟨some 32, .call 337 [] [(.t 27), (.t 28), (.t 29), (.t 31)], none⟩,
       ⟨some 25, .mv (.t 32), none⟩,
       ⟨some 33, .ext (.t 25) 0, none⟩,
       ⟨some 34, .ext (.t 25) 1, none⟩,
       ⟨some 10, .alloc [(.v false (.int .i64 0)), (.nl 5)], none⟩,
       ⟨none, .st 2 (.t 10) (.t 33), none⟩,
       ⟨some 11, .mv (.t 34), none⟩] (some [(1, 4), (0, 10), (1, 10), (4, 10), (5, 10), (6, 10)]))
     (.seq (.reg [1, 2, 4, 7, 10, 11, 12] [] [
        ⟨some 35, .ld true 2 (.t 4), none⟩,
        ⟨some 36, .call 243 [] [(.t 35)], none⟩,
        ⟨some 12, .alloc [(.v false (.int .i64 0)), (.nl 5)], none⟩,
        ⟨none, .st 2 (.t 12) (.t 36), none⟩] none)
      (.seq (.reg [1, 2, 4, 7, 10, 11, 12, 13, 14] [(43, 14)] [
         ⟨some 38, .ld true 2 (.t 12), none⟩,
         ⟨some 39, .mv (.t 1), none⟩,
         ⟨some 40, .mv (.t 2), none⟩,
         ⟨some 41, .ld true 5 (.t 7), none⟩,
         ⟨some 42, .call 248 [] [(.t 41)], none⟩,
         ⟨some 43, .call 56 [] [(.t 38), (.t 39), (.t 40), (.t 42)], none⟩,
         ⟨some 37, .mv (.t 43), none⟩,
         ⟨some 44, .ext (.t 37) 0, none⟩,
         ⟨some 45, .ext (.t 37) 1, none⟩,
         ⟨some 13, .alloc [(.v false (.int .i64 0)), (.nl 5)], none⟩,
         ⟨none, .st 2 (.t 13) (.t 44), none⟩,
         ⟨some 14, .mv (.t 45), none⟩] (some [(0, 4), (0, 9), (3, 9), (4, 9), (5, 9)]))
       (.seq (.seq (.reg [1, 2, 4, 7, 10, 11, 12, 13, 14, 54] [] [
           ⟨some 46, .ld true 2 (.t 13), none⟩,
           ⟨some 47, .ld true 2 (.t 10), none⟩,
           ⟨some 48, .call 151 [] [(.t 46), (.t 47)], none⟩,
           ⟨some 49, .un .not (.t 48), none⟩,
           ⟨some 50, .mv (.t 49), none⟩,
           ⟨some 51, .mv (.t 14), some (50, false)⟩,
           ⟨some 52, .mv (.t 11), some (50, false)⟩,
           ⟨some 53, .eqb true (.t 51) (.t 52), some (50, false)⟩,
           ⟨some 54, .pick (.t 50) (.c (.v false (.bool true))) (.t 53), none⟩] none)
         (.cond (.t 54) (.seq (.reg [8] [] [
             ⟨some 8, .mv (.c (.v false (.bool false))), none⟩] none)
           (.ret))
          (.skip)))
        (.seq (.seq (.reg [1, 2, 4, 7, 10, 11, 12, 13, 14, 59] [] [
            ⟨some 55, .ld true 2 (.t 12), none⟩,
            ⟨some 56, .ld true 2 (.t 4), none⟩,
            ⟨some 57, .call 243 [] [(.t 56)], none⟩,
            ⟨some 58, .call 151 [] [(.t 55), (.t 57)], none⟩,
            ⟨some 59, .un .not (.t 58), none⟩] (some [(0, 2)]))
          (.cond (.t 59) (.seq (.reg [8] [] [
              ⟨some 8, .mv (.c (.v false (.bool false))), none⟩] none)
            (.ret))
           (.skip)))
         (.seq (.reg [1, 2, 4, 7, 10, 11, 12, 13, 14, 15] [] [
            ⟨some 15, .mv (.c (.v false (.int .i64 1))), none⟩] none)
          (.seq (.reg [1, 2, 4, 7, 10, 11, 13, 14, 15] [(62, 15)] [
             ⟨some 60, .ld true 2 (.t 12), none⟩,
             ⟨some 61, .mv (.t 15), none⟩,
             ⟨some 62, .call 189 [0] [(.t 60), (.t 61)], none⟩,
             ⟨some 15, .mv (.t 62), none⟩] none)
           (.seq (.seq (.reg [1, 2, 4, 7, 10, 11, 13, 75] [] [
               ⟨some 63, .mv (.t 15), none⟩,
               ⟨some 64, .bin .lss (.t 63) (.c (.v false (.int .i64 0))), none⟩,
               ⟨some 65, .mv (.t 64), none⟩,
               ⟨some 66, .ld true 2 (.t 13), some (65, false)⟩,
               ⟨some 67, .ld true 2 (.t 10), some (65, false)⟩,
               ⟨some 68, .call 151 [] [(.t 66), (.t 67)], some (65, false)⟩,
               ⟨some 69, .un .not (.t 68), some (65, false)⟩,
               ⟨some 70, .pick (.t 65) (.c (.v false (.bool true))) (.t 69), none⟩,
               ⟨some 71, .mv (.t 70), none⟩,
               ⟨some 72, .mv (.t 14), some (71, false)⟩,
               ⟨some 73, .mv (.t 11), some (71, false)⟩,
               ⟨some 74, .eqb true (.t 72) (.t 73), some (71, false)⟩,
               ⟨some 75, .pick (.t 71) (.c (.v false (.bool true))) (.t 74), none⟩] none)
             (.cond (.t 75) (.seq (.reg [8] [] [
                 ⟨some 8, .mv (.c (.v false (.bool false))), none⟩] none)
               (.ret))
              (.skip)))
            (.seq (.reg [1, 2, 4, 7, 10, 11, 13, 16] [] [
               ⟨some 16, .mv (.c (.v false (.int .i64 1))), none⟩] none)
             (.seq (.reg [1, 2, 4, 7, 10, 11, 13, 16] [(78, 16)] [
                ⟨some 76, .ld true 2 (.t 13), none⟩,
                ⟨some 77, .mv (.t 16), none⟩,
                ⟨some 78, .call 189 [0] [(.t 76), (.t 77)], none⟩,
                ⟨some 16, .mv (.t 78), none⟩] none)
              (.seq (.reg [1, 2, 4, 7, 10, 11, 13, 16, 17] [] [
                 ⟨some 17, .mv (.c (.v false (.int .i64 1))), none⟩] none)
               (.seq (.reg [1, 2, 4, 7, 10, 11, 13, 16, 17] [(81, 17)] [
                  ⟨some 79, .ld true 2 (.t 13), none⟩,
                  ⟨some 80, .mv (.t 17), none⟩,
                  ⟨some 81, .call 174 [] [(.t 79), (.t 80)], none⟩,
                  ⟨some 17, .mv (.t 81), none⟩] none)
                (.seq (.seq (.reg [1, 2, 4, 7, 10, 11, 13, 16, 17, 83] [] [
                    ⟨some 82, .mv (.t 17), none⟩,
                    ⟨some 83, .bin .lss (.t 82) (.c (.v false (.int .i64 0))), none⟩] none)
                  (.cond (.t 83) (.seq (.reg [8] [] [
                      ⟨some 8, .mv (.c (.v false (.bool false))), none⟩] none)
                    (.ret))
                   (.skip)))
                 (.seq (.seq (.reg [1, 2, 4, 7, 10, 11, 13, 16, 86] [] [
                     ⟨some 84, .mv (.t 17), none⟩,
                     ⟨some 85, .mv (.t 16), none⟩,
                     ⟨some 86, .bin .neq (.t 84) (.t 85), none⟩] none)
                   (.cond (.t 86) (.seq (.reg [8] [] [
                       ⟨some 8, .mv (.c (.v false (.bool false))), none⟩] none)
                     (.ret))
                    (.skip)))
                  (.seq (.reg [10, 11, 13, 16, 18, 19] [(94, 19)] [
                     ⟨some 88, .ld true 2 (.t 4), none⟩,
                     ⟨some 89, .call 243 [] [(.t 88)], none⟩,
                     ⟨some 90, .mv (.t 1), none⟩,
                     ⟨some 91, .mv (.t 2), none⟩,
                     ⟨some 92, .ld true 5 (.t 7), none⟩,
                     ⟨some 93, .call 248 [] [(.t 92)], none⟩,
                     ⟨some 94, .call 56 [] [(.t 89), (.t 90), (.t 91), (.t 93)], none⟩,
                     ⟨some 87, .mv (.t 94), none⟩,
                     ⟨some 95, .ext (.t 87) 0, none⟩,
                     ⟨some 96, .ext (.t 87) 1, none⟩,
                     ⟨some 18, .alloc [(.v false (.int .i64 0)), (.nl 5)], none⟩,
                     ⟨none, .st 2 (.t 18) (.t 95), none⟩,
                     ⟨some 19, .mv (.t 96), none⟩] (some [(1, 4), (0, 10), (1, 10), (4, 10), (5, 10), (6, 10)]))
                   (.seq (.seq (.reg [13, 16, 105] [] [
                       ⟨some 97, .ld true 2 (.t 18), none⟩,
                       ⟨some 98, .ld true 2 (.t 10), none⟩,
                       ⟨some 99, .call 151 [] [(.t 97), (.t 98)], none⟩,
                       ⟨some 100, .un .not (.t 99), none⟩,
                       ⟨some 101, .mv (.t 100), none⟩,
                       ⟨some 102, .mv (.t 19), some (101, false)⟩,
                       ⟨some 103, .mv (.t 11), some (101, false)⟩,
                       ⟨some 104, .eqb true (.t 102) (.t 103), some (101, false)⟩,
                       ⟨some 105, .pick (.t 101) (.c (.v false (.bool true))) (.t 104), none⟩] none)
                     (.cond (.t 105) (.seq (.reg [8] [] [
                         ⟨some 8, .mv (.c (.v false (.bool false))), none⟩] none)
                       (.ret))
                      (.skip)))
                    (.seq (.reg [13, 16, 17] [] [
                       ⟨some 17, .mv (.c (.v false (.int .i64 1))), none⟩] none)
                     (.seq (.reg [16, 17] [(108, 17)] [
                        ⟨some 106, .ld true 2 (.t 13), none⟩,
                        ⟨some 107, .mv (.t 17), none⟩,
                        ⟨some 108, .call 174 [] [(.t 106), (.t 107)], none⟩,
                        ⟨some 17, .mv (.t 108), none⟩] none)
                      (.seq (.seq (.reg [16, 17, 110] [] [
                          ⟨some 109, .mv (.t 17), none⟩,
                          ⟨some 110, .bin .lss (.t 109) (.c (.v false (.int .i64 0))), none⟩] none)
                        (.cond (.t 110) (.seq (.reg [8] [] [
                            ⟨some 8, .mv (.c (.v false (.bool false))), none⟩] none)
                          (.ret))
                         (.skip)))
                       (.seq (.seq (.reg [113] [] [
                           ⟨some 111, .mv (.t 17), none⟩,
                           ⟨some 112, .mv (.t 16), none⟩,
                           ⟨some 113, .bin .neq (.t 111) (.t 112), none⟩] none)
                         (.cond (.t 113) (.seq (.reg [8] [] [
                             ⟨some 8, .mv (.c (.v false (.bool false))), none⟩] none)
                           (.ret))
                          (.skip)))
                        (.seq (.reg [8] [] [
                           ⟨some 8, .mv (.c (.v false (.bool true))), none⟩] none)
                         (.ret)))))))))))))))))))))))))

def pf130 : PF := ⟨[.s 8], [], pb130⟩

-- loop.example/g00496/laws.eqDir
def pb151 : PC :=
.seq (.reg [2, 3] [] [
   ⟨some 2, .box 2 (.t 0), none⟩,
   ⟨some 3, .box 2 (.t 1), none⟩,
   ⟨some 4, .mv (.c (.v false (.bool false))), none⟩] none)
 (.seq (.seq (.reg [2, 3, 9] [] [
     ⟨some 5, .fad (.t 2) 0, none⟩,
     ⟨some 6, .ld false 1 (.t 5), none⟩,
     ⟨some 7, .fad (.t 3) 0, none⟩,
     ⟨some 8, .ld false 1 (.t 7), none⟩,
     ⟨some 9, .bin .neq (.t 6) (.t 8), none⟩] none)
   (.cond (.t 9) (.seq (.reg [4] [] [
       ⟨some 4, .mv (.c (.v false (.bool false))), none⟩] none)
     (.ret))
    (.skip)))
  (.seq (.seq (.reg [15] [] [
      ⟨some 10, .fad (.t 2) 1, none⟩,
      ⟨some 11, .ld false 1 (.t 10), none⟩,
      ⟨some 12, .fad (.t 3) 1, none⟩,
      ⟨some 13, .ld false 1 (.t 12), none⟩,
      ⟨some 14, .call 157 [] [(.t 11), (.t 13)], none⟩,
      ⟨some 15, .un .not (.t 14), none⟩] none)
    (.cond (.t 15) (.seq (.reg [4] [] [
        ⟨some 4, .mv (.c (.v false (.bool false))), none⟩] none)
      (.ret))
     (.skip)))
   (.seq (.reg [4] [] [
      ⟨some 4, .mv (.c (.v false (.bool true))), none⟩] none)
    (.ret))))

def pf151 : PF := ⟨[.s 4], [], pb151⟩

-- loop.example/g00496/laws.eqRef
def pb156 : PC :=
.seq (.reg [2, 3] [] [
   ⟨some 2, .box 5 (.t 0), none⟩,
   ⟨some 3, .box 5 (.t 1), none⟩,
   ⟨some 4, .mv (.c (.v false (.bool false))), none⟩] none)
 (.seq (.seq (.reg [2, 3, 9] [] [
     ⟨some 5, .fad (.t 2) 0, none⟩,
     ⟨some 6, .ld false 1 (.t 5), none⟩,
     ⟨some 7, .fad (.t 3) 0, none⟩,
     ⟨some 8, .ld false 1 (.t 7), none⟩,
     ⟨some 9, .bin .neq (.t 6) (.t 8), none⟩] none)
   (.cond (.t 9) (.seq (.reg [4] [] [
       ⟨some 4, .mv (.c (.v false (.bool false))), none⟩] none)
     (.ret))
    (.skip)))
  (.seq (.seq (.reg [2, 3, 14] [] [
      ⟨some 10, .fad (.t 2) 1, none⟩,
      ⟨some 11, .ld false 1 (.t 10), none⟩,
      ⟨some 12, .fad (.t 3) 1, none⟩,
      ⟨some 13, .ld false 1 (.t 12), none⟩,
      ⟨some 14, .bin .neq (.t 11) (.t 13), none⟩] none)
    (.cond (.t 14) (.seq (.reg [4] [] [
        ⟨some 4, .mv (.c (.v false (.bool false))), none⟩] none)
      (.ret))
     (.skip)))
   (.seq (.seq (.reg [2, 3, 19] [] [
       ⟨some 15, .fad (.t 2) 2, none⟩,
       ⟨some 16, .ld false 1 (.t 15), none⟩,
       ⟨some 17, .fad (.t 3) 2, none⟩,
       ⟨some 18, .ld false 1 (.t 17), none⟩,
       ⟨some 19, .bin .neq (.t 16) (.t 18), none⟩] none)
     (.cond (.t 19) (.seq (.reg [4] [] [
         ⟨some 4, .mv (.c (.v false (.bool false))), none⟩] none)
       (.ret))
      (.skip)))
    (.seq (.seq (.reg [2, 3, 24] [] [
        ⟨some 20, .fad (.t 2) 3, none⟩,
        ⟨some 21, .ld false 1 (.t 20), none⟩,
        ⟨some 22, .fad (.t 3) 3, none⟩,
        ⟨some 23, .ld false 1 (.t 22), none⟩,
        ⟨some 24, .bin .neq (.t 21) (.t 23), none⟩] none)
      (.cond (.t 24) (.seq (.reg [4] [] [
          ⟨some 4, .mv (.c (.v false (.bool false))), none⟩] none)
        (.ret))
       (.skip)))
     (.seq (.seq (.reg [29] [] [
         ⟨some 25, .fad (.t 2) 4, none⟩,
         ⟨some 26, .ld false 1 (.t 25), none⟩,
         ⟨some 27, .fad (.t 3) 4, none⟩,
         ⟨some 28, .ld false 1 (.t 27), none⟩,
         ⟨some 29, .bin .neq (.t 26) (.t 28), none⟩] none)
       (.cond (.t 29) (.seq (.reg [4] [] [
           ⟨some 4, .mv (.c (.v false (.bool false))), none⟩] none)
         (.ret))
        (.skip)))
      (.seq (.reg [4] [] [
         ⟨some 4, .mv (.c (.v false (.bool true))), none⟩] none)
       (.ret)))))))

def pf156 : PF := ⟨[.s 4], [], pb156⟩

-- loop.example/g00496/laws.eqRefS
def pl157_0 : PC :=
.seq (.seq (.reg [0, 1, 5, 14] [] [
          ⟨some 11, .mv (.t 5), none⟩,
          ⟨some 12, .mv (.t 0), none⟩,
          ⟨some 13, .len (.t 12), none⟩,
          ⟨some 14, .bin .lss (.t 11) (.t 13), none⟩] none)
        (.cond (.t 14) (.skip)
         (.exit 0)))
       (.seq (.blk 1 (.seq (.reg [0, 1, 5, 26] [] [
            ⟨some 17, .mv (.t 0), none⟩,
            ⟨some 18, .mv (.t 5), none⟩,
            ⟨some 19, .iad 5 (.t 17) (.t 18), none⟩,
            ⟨some 20, .ld true 5 (.t 19), none⟩,
            ⟨some 21, .mv (.t 1), none⟩,
            ⟨some 22, .mv (.t 5), none⟩,
            ⟨some 23, .iad 5 (.t 21) (.t 22), none⟩,
            ⟨some 24, .ld true 5 (.t 23), none⟩,
            ⟨some 25, .call 156 [] [(.t 20), (.t 24)], none⟩,
            ⟨some 26, .un .not (.t 25), none⟩] (some []))
          (.cond (.t 26) (.seq (.reg [4] [] [
              ⟨some 4, .mv (.c (.v false (.bool false))), none⟩] none)
            (.ret))
           (.skip))))
        (.reg [0, 1, 5] [] [
          ⟨some 15, .mv (.t 5), none⟩,
          ⟨some 16, .bin .add (.t 15) (.c (.v false (.int .i64 1))), none⟩,
          ⟨some 5, .mv (.t 16), none⟩] none))

def pb157 : PC :=
.seq (.reg [0, 1] [] [
   ⟨some 4, .mv (.c (.v false (.bool false))), none⟩] none)
 (.seq (.seq (.reg [0, 1, 10] [] [
     ⟨some 6, .mv (.t 0), none⟩,
     ⟨some 7, .len (.t 6), none⟩,
     ⟨some 8, .mv (.t 1), none⟩,
     ⟨some 9, .len (.t 8), none⟩,
     ⟨some 10, .bin .neq (.t 7) (.t 9), none⟩] none)
   (.cond (.t 10) (.seq (.reg [4] [] [
       ⟨some 4, .mv (.c (.v false (.bool false))), none⟩] none)
     (.ret))
    (.skip)))
  (.seq (.seq (.reg [0, 1, 5] [] [
      ⟨some 5, .mv (.c (.v false (.int .i64 0))), none⟩] none)
    (.blk 0 (.loop pl157_0)))
   (.seq (.reg [4] [] [
      ⟨some 4, .mv (.c (.v false (.bool true))), none⟩] none)
    (.ret))))

def pf157 : PF := ⟨[.s 4], [], pb157⟩

-- loop.example/g00496/laws.heldDir
def pb174 : PC :=
.seq (.reg [1, 2] [] [
   ⟨some 2, .box 2 (.t 0), none⟩,
   ⟨some 4, .mv (.c (.v false (.int .i64 0))), none⟩] none)
 (.seq (.reg [1] [(8, 1)] [
    ⟨some 5, .fad (.t 2) 1, none⟩,
    ⟨some 6, .ld false 1 (.t 5), none⟩,
    ⟨some 7, .mv (.t 1), none⟩,
    ⟨some 8, .call 177 [] [(.t 6), (.t 7)], none⟩,
    ⟨some 1, .mv (.t 8), none⟩] none)
  (.seq (.seq (.reg [1, 10] [] [
      ⟨some 9, .mv (.t 1), none⟩,
      ⟨some 10, .bin .lss (.t 9) (.c (.v false (.int .i64 0))), none⟩] none)
    (.cond (.t 10) (.seq (.reg [4] [] [
        ⟨some 4, .mv (.c (.v false (.int .i64 (-1)))), none⟩] none)
      (.ret))
     (.skip)))
   (.seq (.reg [1, 4] [] [
      ⟨some 11, .mv (.t 1), none⟩,
      ⟨some 4, .mv (.t 11), none⟩] none)
    (.ret))))

def pf174 : PF := ⟨[.s 4], [], pb174⟩

-- loop.example/g00496/laws.heldRefS
def pl177_0 : PC :=
.seq (.seq (.reg [0, 1, 5, 9] [] [
         ⟨some 6, .mv (.t 5), none⟩,
         ⟨some 7, .mv (.t 0), none⟩,
         ⟨some 8, .len (.t 7), none⟩,
         ⟨some 9, .bin .lss (.t 6) (.t 8), none⟩] none)
       (.cond (.t 9) (.skip)
        (.exit 0)))
      (.seq (.blk 1 (.seq (.seq (.reg [0, 1, 5, 18] [] [
            ⟨some 12, .mv (.t 0), none⟩,
            ⟨some 13, .mv (.t 5), none⟩,
            ⟨some 14, .iad 5 (.t 12) (.t 13), none⟩,
            ⟨some 15, .fad (.t 14) 0, none⟩,
            ⟨some 16, .ld false 1 (.t 15), none⟩,
            ⟨some 17, .mv (.t 1), none⟩,
            ⟨some 18, .bin .neq (.t 16) (.t 17), none⟩] none)
          (.cond (.t 18) (.seq (.reg [4] [] [
              ⟨some 4, .mv (.c (.v false (.int .i64 (-1)))), none⟩] none)
            (.ret))
           (.skip)))
         (.seq (.reg [0, 1, 5] [] [
            ⟨some 19, .mv (.t 1), none⟩,
            ⟨some 20, .bin .add (.t 19) (.c (.v false (.int .i64 1))), none⟩,
            ⟨some 1, .mv (.t 20), none⟩] none)
          (.seq (.seq (.reg [0, 1, 5, 27] [] [
              ⟨some 21, .mv (.t 0), none⟩,
              ⟨some 22, .mv (.t 5), none⟩,
              ⟨some 23, .iad 5 (.t 21) (.t 22), none⟩,
              ⟨some 24, .fad (.t 23) 1, none⟩,
              ⟨some 25, .ld false 1 (.t 24), none⟩,
              ⟨some 26, .mv (.t 1), none⟩,
              ⟨some 27, .bin .neq (.t 25) (.t 26), none⟩] none)
            (.cond (.t 27) (.seq (.reg [4] [] [
                ⟨some 4, .mv (.c (.v false (.int .i64 (-1)))), none⟩] none)
              (.ret))
             (.skip)))
           (.seq (.reg [0, 1, 5] [] [
              ⟨some 28, .mv (.t 1), none⟩,
              ⟨some 29, .bin .add (.t 28) (.c (.v false (.int .i64 1))), none⟩,
              ⟨some 1, .mv (.t 29), none⟩] none)
            (.seq (.seq (.reg [0, 1, 5, 36] [] [
                ⟨some 30, .mv (.t 0), none⟩,
                ⟨some 31, .mv (.t 5), none⟩,
                ⟨some 32, .iad 5 (.t 30) (.t 31), none⟩,
                ⟨some 33, .fad (.t 32) 2, none⟩,
                ⟨some 34, .ld false 1 (.t 33), none⟩,
                ⟨some 35, .mv (.t 1), none⟩,
                ⟨some 36, .bin .neq (.t 34) (.t 35), none⟩] none)
              (.cond (.t 36) (.seq (.reg [4] [] [
                  ⟨some 4, .mv (.c (.v false (.int .i64 (-1)))), none⟩] none)
                (.ret))
               (.skip)))
             (.seq (.reg [0, 1, 5] [] [
                ⟨some 37, .mv (.t 1), none⟩,
                ⟨some 38, .bin .add (.t 37) (.c (.v false (.int .i64 1))), none⟩,
                ⟨some 1, .mv (.t 38), none⟩] none)
              (.seq (.seq (.reg [0, 1, 5, 45] [] [
                  ⟨some 39, .mv (.t 0), none⟩,
                  ⟨some 40, .mv (.t 5), none⟩,
                  ⟨some 41, .iad 5 (.t 39) (.t 40), none⟩,
                  ⟨some 42, .fad (.t 41) 3, none⟩,
                  ⟨some 43, .ld false 1 (.t 42), none⟩,
                  ⟨some 44, .mv (.t 1), none⟩,
                  ⟨some 45, .bin .neq (.t 43) (.t 44), none⟩] none)
                (.cond (.t 45) (.seq (.reg [4] [] [
                    ⟨some 4, .mv (.c (.v false (.int .i64 (-1)))), none⟩] none)
                  (.ret))
                 (.skip)))
               (.seq (.reg [0, 1, 5] [] [
                  ⟨some 46, .mv (.t 1), none⟩,
                  ⟨some 47, .bin .add (.t 46) (.c (.v false (.int .i64 1))), none⟩,
                  ⟨some 1, .mv (.t 47), none⟩] none)
                (.seq (.seq (.reg [0, 1, 5, 54] [] [
                    ⟨some 48, .mv (.t 0), none⟩,
                    ⟨some 49, .mv (.t 5), none⟩,
                    ⟨some 50, .iad 5 (.t 48) (.t 49), none⟩,
                    ⟨some 51, .fad (.t 50) 4, none⟩,
                    ⟨some 52, .ld false 1 (.t 51), none⟩,
                    ⟨some 53, .mv (.t 1), none⟩,
                    ⟨some 54, .bin .neq (.t 52) (.t 53), none⟩] none)
                  (.cond (.t 54) (.seq (.reg [4] [] [
                      ⟨some 4, .mv (.c (.v false (.int .i64 (-1)))), none⟩] none)
                    (.ret))
                   (.skip)))
                 (.reg [0, 1, 5] [] [
                   ⟨some 55, .mv (.t 1), none⟩,
                   ⟨some 56, .bin .add (.t 55) (.c (.v false (.int .i64 1))), none⟩,
                   ⟨some 1, .mv (.t 56), none⟩] none)))))))))))
       (.reg [0, 1, 5] [] [
         ⟨some 10, .mv (.t 5), none⟩,
         ⟨some 11, .bin .add (.t 10) (.c (.v false (.int .i64 1))), none⟩,
         ⟨some 5, .mv (.t 11), none⟩] none))

def pb177 : PC :=
.seq (.reg [0, 1] [] [
   ⟨some 4, .mv (.c (.v false (.int .i64 0))), none⟩] none)
 (.seq (.seq (.reg [0, 1, 5] [] [
     ⟨some 5, .mv (.c (.v false (.int .i64 0))), none⟩] none)
   (.blk 0 (.loop pl177_0)))
  (.seq (.reg [4] [] [
     ⟨some 57, .mv (.t 1), none⟩,
     ⟨some 4, .mv (.t 57), none⟩] none)
   (.ret)))

def pf177 : PF := ⟨[.s 4], [], pb177⟩

-- loop.example/g00496/laws.markDir
def pb189 : PC :=
.seq (.reg [0, 1, 2] [] [
   ⟨some 2, .box 2 (.t 0), none⟩,
   ⟨some 4, .mv (.c (.v false (.int .i64 0))), none⟩] none)
 (.seq (.reg [0, 1] [(8, 1)] [
    ⟨some 5, .fad (.t 2) 1, none⟩,
    ⟨some 6, .ld false 1 (.t 5), none⟩,
    ⟨some 7, .mv (.t 1), none⟩,
    ⟨some 8, .call 192 [0] [(.t 6), (.t 7)], none⟩,
    ⟨some 1, .mv (.t 8), none⟩] none)
  (.seq (.reg [0, 1, 4] [] [
     ⟨some 9, .mv (.t 1), none⟩,
     ⟨some 4, .mv (.t 9), none⟩] none)
   (.ret)))

def pf189 : PF := ⟨[.s 4], [0], pb189⟩

-- loop.example/g00496/laws.markRefS
def pl192_0 : PC :=
.seq (.seq (.reg [0, 1, 5, 9] [] [
         ⟨some 6, .mv (.t 5), none⟩,
         ⟨some 7, .mv (.t 0), none⟩,
         ⟨some 8, .len (.t 7), none⟩,
         ⟨some 9, .bin .lss (.t 6) (.t 8), none⟩] none)
       (.cond (.t 9) (.skip)
        (.exit 0)))
      (.seq (.blk 1 (.seq (.reg [0, 1, 5] [] [
           ⟨some 12, .mv (.t 0), none⟩,
           ⟨some 13, .mv (.t 5), none⟩,
           ⟨some 14, .mv (.t 1), none⟩,
           ⟨some 15, .iad 5 (.t 12) (.t 13), none⟩,
           ⟨some 16, .fad (.t 15) 0, none⟩,
           ⟨none, .st 1 (.t 16) (.t 14), none⟩] none)
         (.seq (.reg [0, 1, 5] [] [
            ⟨some 17, .mv (.t 1), none⟩,
            ⟨some 18, .bin .add (.t 17) (.c (.v false (.int .i64 1))), none⟩,
            ⟨some 1, .mv (.t 18), none⟩] none)
          (.seq (.reg [0, 1, 5] [] [
             ⟨some 19, .mv (.t 0), none⟩,
             ⟨some 20, .mv (.t 5), none⟩,
             ⟨some 21, .mv (.t 1), none⟩,
             ⟨some 22, .iad 5 (.t 19) (.t 20), none⟩,
             ⟨some 23, .fad (.t 22) 1, none⟩,
             ⟨none, .st 1 (.t 23) (.t 21), none⟩] none)
           (.seq (.reg [0, 1, 5] [] [
              ⟨some 24, .mv (.t 1), none⟩,
              ⟨some 25, .bin .add (.t 24) (.c (.v false (.int .i64 1))), none⟩,
              ⟨some 1, .mv (.t 25), none⟩] none)
            (.seq (.reg [0, 1, 5] [] [
               ⟨some 26, .mv (.t 0), none⟩,
               ⟨some 27, .mv (.t 5), none⟩,
               ⟨some 28, .mv (.t 1), none⟩,
               ⟨some 29, .iad 5 (.t 26) (.t 27), none⟩,
               ⟨some 30, .fad (.t 29) 2, none⟩,
               ⟨none, .st 1 (.t 30) (.t 28), none⟩] none)
             (.seq (.reg [0, 1, 5] [] [
                ⟨some 31, .mv (.t 1), none⟩,
                ⟨some 32, .bin .add (.t 31) (.c (.v false (.int .i64 1))), none⟩,
                ⟨some 1, .mv (.t 32), none⟩] none)
              (.seq (.reg [0, 1, 5] [] [
                 ⟨some 33, .mv (.t 0), none⟩,
                 ⟨some 34, .mv (.t 5), none⟩,
                 ⟨some 35, .mv (.t 1), none⟩,
                 ⟨some 36, .iad 5 (.t 33) (.t 34), none⟩,
                 ⟨some 37, .fad (.t 36) 3, none⟩,
                 ⟨none, .st 1 (.t 37) (.t 35), none⟩] none)
               (.seq (.reg [0, 1, 5] [] [
                  ⟨some 38, .mv (.t 1), none⟩,
                  ⟨some 39, .bin .add (.t 38) (.c (.v false (.int .i64 1))), none⟩,
                  ⟨some 1, .mv (.t 39), none⟩] none)
                (.seq (.reg [0, 1, 5] [] [
                   ⟨some 40, .mv (.t 0), none⟩,
                   ⟨some 41, .mv (.t 5), none⟩,
                   ⟨some 42, .mv (.t 1), none⟩,
                   ⟨some 43, .iad 5 (.t 40) (.t 41), none⟩,
                   ⟨some 44, .fad (.t 43) 4, none⟩,
                   ⟨none, .st 1 (.t 44) (.t 42), none⟩] none)
                 (.reg [0, 1, 5] [] [
                   ⟨some 45, .mv (.t 1), none⟩,
                   ⟨some 46, .bin .add (.t 45) (.c (.v false (.int .i64 1))), none⟩,
                   ⟨some 1, .mv (.t 46), none⟩] none)))))))))))
       (.reg [0, 1, 5] [] [
         ⟨some 10, .mv (.t 5), none⟩,
         ⟨some 11, .bin .add (.t 10) (.c (.v false (.int .i64 1))), none⟩,
         ⟨some 5, .mv (.t 11), none⟩] none))

def pb192 : PC :=
.seq (.reg [0, 1] [] [
   ⟨some 4, .mv (.c (.v false (.int .i64 0))), none⟩] none)
 (.seq (.seq (.reg [0, 1, 5] [] [
     ⟨some 5, .mv (.c (.v false (.int .i64 0))), none⟩] none)
   (.blk 0 (.loop pl192_0)))
  (.seq (.reg [0, 4] [] [
     ⟨some 47, .mv (.t 1), none⟩,
     ⟨some 4, .mv (.t 47), none⟩] none)
   (.ret)))

def pf192 : PF := ⟨[.s 4], [0], pb192⟩

-- loop.example/g00496/laws.szDir
def pb218 : PC :=
.seq (.reg [1, 2] [] [
   ⟨some 2, .box 2 (.t 0), none⟩,
   ⟨some 4, .mv (.c (.v false (.int .i64 0))), none⟩] none)
 (.seq (.reg [1] [(8, 1)] [
    ⟨some 5, .fad (.t 2) 1, none⟩,
    ⟨some 6, .ld false 1 (.t 5), none⟩,
    ⟨some 7, .mv (.t 1), none⟩,
    ⟨some 8, .call 223 [] [(.t 6), (.t 7)], none⟩,
    ⟨some 1, .mv (.t 8), none⟩] none)
  (.seq (.seq (.reg [1, 10] [] [
      ⟨some 9, .mv (.t 1), none⟩,
      ⟨some 10, .bin .lss (.t 9) (.c (.v false (.int .i64 0))), none⟩] none)
    (.cond (.t 10) (.seq (.reg [4] [] [
        ⟨some 4, .mv (.c (.v false (.int .i64 (-1)))), none⟩] none)
      (.ret))
     (.skip)))
   (.seq (.reg [1, 4] [] [
      ⟨some 11, .mv (.t 1), none⟩,
      ⟨some 4, .mv (.t 11), none⟩] none)
    (.ret))))

def pf218 : PF := ⟨[.s 4], [], pb218⟩

-- loop.example/g00496/laws.szRefS
def pb223 : PC :=
.seq (.reg [0, 1] [] [
   ⟨some 4, .mv (.c (.v false (.int .i64 0))), none⟩] none)
 (.seq (.reg [1] [] [
    ⟨some 5, .mv (.t 1), none⟩,
    ⟨some 6, .mv (.t 0), none⟩,
    ⟨some 7, .len (.t 6), none⟩,
    ⟨some 8, .bin .sub (.t 5) (.t 7), none⟩,
    ⟨some 1, .mv (.t 8), none⟩] none)
  (.seq (.seq (.reg [1, 10] [] [
      ⟨some 9, .mv (.t 1), none⟩,
      ⟨some 10, .bin .lss (.t 9) (.c (.v false (.int .i64 0))), none⟩] none)
    (.cond (.t 10) (.seq (.reg [4] [] [
        ⟨some 4, .mv (.c (.v false (.int .i64 (-1)))), none⟩] none)
      (.ret))
     (.skip)))
   (.seq (.reg [4] [] [
      ⟨some 11, .mv (.t 1), none⟩,
      ⟨some 4, .mv (.t 11), none⟩] none)
    (.ret))))

def pf223 : PF := ⟨[.s 4], [], pb223⟩

-- loop.example/g00496/laws.toDir
def pb243 : PC :=
.seq (.reg [1, 2] [] [
   ⟨some 1, .box 2 (.t 0), none⟩,
   ⟨some 2, .alloc [(.v false (.int .i64 0)), (.nl 5)], none⟩] none)
 (.seq (.reg [1, 2, 3] [] [
    ⟨some 3, .alloc [(.v false (.int .i64 0)), (.nl 5)], none⟩] none)
  (.seq (.reg [1, 2, 3] [] [
     ⟨some 4, .fad (.t 1) 0, none⟩,
     ⟨some 5, .ld false 1 (.t 4), none⟩,
     ⟨some 6, .fad (.t 3) 0, none⟩,
     ⟨none, .st 1 (.t 6) (.t 5), none⟩] none)
   (.seq (.reg [2, 3] [] [
      ⟨some 7, .fad (.t 1) 1, none⟩,
      ⟨some 8, .ld false 1 (.t 7), none⟩,
      ⟨some 9, .call 249 [] [(.t 8)], none⟩,
      ⟨some 10, .fad (.t 3) 1, none⟩,
      ⟨none, .st 1 (.t 10) (.t 9), none⟩] none)
    (.seq (.reg [2] [] [
       ⟨some 11, .ld true 2 (.t 3), none⟩,
       ⟨none, .st 2 (.t 2) (.t 11), none⟩] none)
     (.ret)))))

def pf243 : PF := ⟨[.b 2 2 true], [], pb243⟩

-- loop.example/g00496/laws.toRef
def pb248 : PC :=
.seq (.reg [1, 2] [] [
   ⟨some 1, .box 5 (.t 0), none⟩,
   ⟨some 2, .alloc [(.v false (.int .i64 0)), (.v false (.int .i64 0)), (.v false (.int .i64 0)), (.v false (.int .i64 0)), (.v false (.int .i64 0))], none⟩] none)
 (.seq (.reg [1, 2, 3] [] [
    ⟨some 3, .alloc [(.v false (.int .i64 0)), (.v false (.int .i64 0)), (.v false (.int .i64 0)), (.v false (.int .i64 0)), (.v false (.int .i64 0))], none⟩] none)
  (.seq (.reg [1, 2, 3] [] [
     ⟨some 4, .fad (.t 1) 0, none⟩,
     ⟨some 5, .ld false 1 (.t 4), none⟩,
     ⟨some 6, .fad (.t 3) 0, none⟩,
     ⟨none, .st 1 (.t 6) (.t 5), none⟩] none)
   (.seq (.reg [1, 2, 3] [] [
      ⟨some 7, .fad (.t 1) 1, none⟩,
      ⟨some 8, .ld false 1 (.t 7), none⟩,
      ⟨some 9, .fad (.t 3) 1, none⟩,
      ⟨none, .st 1 (.t 9) (.t 8), none⟩] none)
    (.seq (.reg [1, 2, 3] [] [
       ⟨some 10, .fad (.t 1) 2, none⟩,
       ⟨some 11, .ld false 1 (.t 10), none⟩,
       ⟨some 12, .fad (.t 3) 2, none⟩,
       ⟨none, .st 1 (.t 12) (.t 11), none⟩] none)
     (.seq (.reg [1, 2, 3] [] [
        ⟨some 13, .fad (.t 1) 3, none⟩,
        ⟨some 14, .ld false 1 (.t 13), none⟩,
        ⟨some 15, .fad (.t 3) 3, none⟩,
        ⟨none, .st 1 (.t 15) (.t 14), none⟩] none)
      (.seq (.reg [2, 3] [] [
         ⟨some 16, .fad (.t 1) 4, none⟩,
         ⟨some 17, .ld false 1 (.t 16), none⟩,
         ⟨some 18, .fad (.t 3) 4, none⟩,
         ⟨none, .st 1 (.t 18) (.t 17), none⟩] none)
       (.seq (.reg [2] [] [
          ⟨some 19, .ld true 5 (.t 3), none⟩,
          ⟨none, .st 5 (.t 2) (.t 19), none⟩] none)
        (.ret))))))))

def pf248 : PF := ⟨[.b 2 5 true], [], pb248⟩

-- loop.example/g00496/laws.toRefS
def pl249_0 : PC :=
.seq (.seq (.reg [0, 3, 4, 11] [] [
          ⟨some 8, .mv (.t 4), none⟩,
          ⟨some 9, .mv (.t 0), none⟩,
          ⟨some 10, .len (.t 9), none⟩,
          ⟨some 11, .bin .lss (.t 8) (.t 10), none⟩] none)
        (.cond (.t 11) (.skip)
         (.exit 0)))
       (.seq (.blk 1 (.reg [0, 3, 4] [] [
           ⟨some 14, .mv (.t 3), none⟩,
           ⟨some 15, .mv (.t 4), none⟩,
           ⟨some 16, .mv (.t 0), none⟩,
           ⟨some 17, .mv (.t 4), none⟩,
           ⟨some 18, .iad 5 (.t 16) (.t 17), none⟩,
           ⟨some 19, .ld true 5 (.t 18), none⟩,
           ⟨some 20, .call 248 [] [(.t 19)], none⟩,
           ⟨some 21, .iad 5 (.t 14) (.t 15), none⟩,
           ⟨none, .st 5 (.t 21) (.t 20), none⟩] none))
        (.reg [0, 3, 4] [] [
          ⟨some 12, .mv (.t 4), none⟩,
          ⟨some 13, .bin .add (.t 12) (.c (.v false (.int .i64 1))), none⟩,
          ⟨some 4, .mv (.t 13), none⟩] none))

def pb249 : PC :=
.seq (.reg [0] [] [
   ⟨some 2, .mv (.c (.nl 5)), none⟩] none)
 (.seq (.reg [0, 3] [(7, 3)] [
    ⟨some 5, .mv (.t 0), none⟩,
    ⟨some 6, .len (.t 5), none⟩,
    ⟨some 7, .mks 5 40 [.int .i64 0, .int .i64 0, .int .i64 0, .int .i64 0, .int .i64 0] (.t 6), none⟩,
    ⟨some 3, .mv (.t 7), none⟩] none)
  (.seq (.seq (.reg [0, 3, 4] [] [
      ⟨some 4, .mv (.c (.v false (.int .i64 0))), none⟩] none)
    (.blk 0 (.loop pl249_0)))
   (.seq (.reg [2, 3] [] [
      ⟨some 22, .mv (.t 3), none⟩,
      ⟨some 2, .mv (.t 22), none⟩] none)
    (.ret))))

def pf249 : PF := ⟨[.s 2], [], pb249⟩

-- loop.example/g00496/spec.DirOk
def pl271_0 : PC :=
.seq (.seq (.reg [1, 3, 4, 5, 44] [] [
                   ⟨some 42, .mv (.t 5), none⟩,
                   ⟨some 43, .mv (.t 4), none⟩,
                   ⟨some 44, .bin .lss (.t 42) (.t 43), none⟩] none)
                 (.cond (.t 44) (.skip)
                  (.exit 2)))
                (.seq (.blk 3 (.seq (.reg [1, 3, 4, 5, 59] [] [
                     ⟨some 47, .fad (.t 1) 1, none⟩,
                     ⟨some 48, .ld false 1 (.t 47), none⟩,
                     ⟨some 49, .mv (.t 5), none⟩,
                     ⟨some 50, .iad 5 (.t 48) (.t 49), none⟩,
                     ⟨some 51, .fad (.t 50) 0, none⟩,
                     ⟨some 52, .ld false 1 (.t 51), none⟩,
                     ⟨some 53, .fad (.t 1) 1, none⟩,
                     ⟨some 54, .ld false 1 (.t 53), none⟩,
                     ⟨some 55, .mv (.t 4), none⟩,
                     ⟨some 56, .iad 5 (.t 54) (.t 55), none⟩,
                     ⟨some 57, .fad (.t 56) 0, none⟩,
                     ⟨some 58, .ld false 1 (.t 57), none⟩,
                     ⟨some 59, .bin .eql (.t 52) (.t 58), none⟩] (some []))
                   (.cond (.t 59) (.seq (.reg [2] [] [
                       ⟨some 2, .mv (.c (.v false (.bool false))), none⟩] none)
                     (.ret))
                    (.skip))))
                 (.reg [1, 3, 4, 5] [] [
                   ⟨some 45, .mv (.t 5), none⟩,
                   ⟨some 46, .bin .add (.t 45) (.c (.v false (.int .i64 1))), none⟩,
                   ⟨some 5, .mv (.t 46), none⟩] none))

def pl271_1 : PC :=
.seq (.seq (.reg [1, 3, 4, 14] [] [
           ⟨some 10, .mv (.t 4), none⟩,
           ⟨some 11, .fad (.t 1) 1, none⟩,
           ⟨some 12, .ld false 1 (.t 11), none⟩,
           ⟨some 13, .len (.t 12), none⟩,
           ⟨some 14, .bin .lss (.t 10) (.t 13), none⟩] none)
         (.cond (.t 14) (.skip)
          (.exit 0)))
        (.seq (.blk 1 (.seq (.seq (.reg [1, 3, 4, 33] [] [
              ⟨some 17, .fad (.t 1) 1, none⟩,
              ⟨some 18, .ld false 1 (.t 17), none⟩,
              ⟨some 19, .mv (.t 4), none⟩,
              ⟨some 20, .iad 5 (.t 18) (.t 19), none⟩,
              ⟨some 21, .ld true 5 (.t 20), none⟩,
              ⟨some 22, .call 370 [] [(.t 21)], none⟩,
              ⟨some 23, .un .not (.t 22), none⟩,
              ⟨some 24, .mv (.t 23), none⟩,
              ⟨some 25, .fad (.t 1) 1, some (24, false)⟩,
              ⟨some 26, .ld false 1 (.t 25), some (24, false)⟩,
              ⟨some 27, .mv (.t 4), some (24, false)⟩,
              ⟨some 28, .iad 5 (.t 26) (.t 27), some (24, false)⟩,
              ⟨some 29, .fad (.t 28) 3, some (24, false)⟩,
              ⟨some 30, .ld false 1 (.t 29), some (24, false)⟩,
              ⟨some 31, .mv (.t 3), some (24, false)⟩,
              ⟨some 32, .bin .neq (.t 30) (.t 31), some (24, false)⟩,
              ⟨some 33, .pick (.t 24) (.c (.v false (.bool true))) (.t 32), none⟩] none)
            (.cond (.t 33) (.seq (.reg [2] [] [
                ⟨some 2, .mv (.c (.v false (.bool false))), none⟩] none)
              (.ret))
             (.skip)))
           (.seq (.reg [1, 3, 4] [] [
              ⟨some 34, .mv (.t 3), none⟩,
              ⟨some 35, .fad (.t 1) 1, none⟩,
              ⟨some 36, .ld false 1 (.t 35), none⟩,
              ⟨some 37, .mv (.t 4), none⟩,
              ⟨some 38, .iad 5 (.t 36) (.t 37), none⟩,
              ⟨some 39, .fad (.t 38) 4, none⟩,
              ⟨some 40, .ld false 1 (.t 39), none⟩,
              ⟨some 41, .bin .add (.t 34) (.t 40), none⟩,
              ⟨some 3, .mv (.t 41), none⟩] none)
            (.seq (.reg [1, 3, 4, 5] [] [
               ⟨some 5, .mv (.c (.v false (.int .i64 0))), none⟩] none)
             (.blk 2 (.loop pl271_0))))))
         (.reg [1, 3, 4] [] [
           ⟨some 15, .mv (.t 4), none⟩,
           ⟨some 16, .bin .add (.t 15) (.c (.v false (.int .i64 1))), none⟩,
           ⟨some 4, .mv (.t 16), none⟩] none))

def pb271 : PC :=
.seq (.reg [1] [] [
   ⟨some 1, .box 2 (.t 0), none⟩,
   ⟨some 2, .mv (.c (.v false (.bool false))), none⟩] none)
 (.seq (.reg [1, 3] [] [
    ⟨some 3, .mv (.c (.v false (.int .i64 0))), none⟩] none)
  (.seq (.seq (.reg [1, 3, 9] [] [
      ⟨some 6, .fad (.t 1) 1, none⟩,
      ⟨some 7, .ld false 1 (.t 6), none⟩,
      ⟨some 8, .len (.t 7), none⟩,
      ⟨some 9, .bin .gtr (.t 8) (.c (.v false (.int .i64 8))), none⟩] none)
    (.cond (.t 9) (.seq (.reg [2] [] [
        ⟨some 2, .mv (.c (.v false (.bool false))), none⟩] none)
      (.ret))
     (.skip)))
   (.seq (.seq (.reg [1, 3, 4] [] [
       ⟨some 4, .mv (.c (.v false (.int .i64 0))), none⟩] none)
     (.blk 0 (.loop pl271_1)))
    (.seq (.reg [2] [] [
       ⟨some 60, .fad (.t 1) 0, none⟩,
       ⟨some 61, .ld false 1 (.t 60), none⟩,
       ⟨some 62, .bin .geq (.t 61) (.c (.v false (.int .i64 0))), none⟩,
       ⟨some 2, .mv (.t 62), none⟩] none)
     (.ret)))))

def pf271 : PF := ⟨[.s 2], [], pb271⟩

-- loop.example/g00496/spec.EndOf
def pb296 : PC :=
.seq (.reg [1] [] [
   ⟨some 1, .box 2 (.t 0), none⟩,
   ⟨some 2, .mv (.c (.v false (.int .i64 0))), none⟩] none)
 (.seq (.seq (.reg [1, 7] [] [
     ⟨some 4, .fad (.t 1) 1, none⟩,
     ⟨some 5, .ld false 1 (.t 4), none⟩,
     ⟨some 6, .len (.t 5), none⟩,
     ⟨some 7, .bin .eql (.t 6) (.c (.v false (.int .i64 0))), none⟩] none)
   (.cond (.t 7) (.seq (.reg [2] [] [
       ⟨some 2, .mv (.c (.v false (.int .i64 0))), none⟩] none)
     (.ret))
    (.skip)))
  (.seq (.reg [3] [] [
     ⟨some 8, .fad (.t 1) 1, none⟩,
     ⟨some 9, .ld false 1 (.t 8), none⟩,
     ⟨some 10, .fad (.t 1) 1, none⟩,
     ⟨some 11, .ld false 1 (.t 10), none⟩,
     ⟨some 12, .len (.t 11), none⟩,
     ⟨some 13, .bin .sub (.t 12) (.c (.v false (.int .i64 1))), none⟩,
     ⟨some 14, .iad 5 (.t 9) (.t 13), none⟩,
     ⟨some 15, .ld true 5 (.t 14), none⟩,
     ⟨some 3, .alloc [(.v false (.int .i64 0)), (.v false (.int .i64 0)), (.v false (.int .i64 0)), (.v false (.int .i64 0)), (.v false (.int .i64 0))], none⟩,
     ⟨none, .st 5 (.t 3) (.t 15), none⟩] none)
   (.seq (.reg [2] [] [
      ⟨some 16, .fad (.t 3) 3, none⟩,
      ⟨some 17, .ld false 1 (.t 16), none⟩,
      ⟨some 18, .fad (.t 3) 4, none⟩,
      ⟨some 19, .ld false 1 (.t 18), none⟩,
      ⟨some 20, .bin .add (.t 17) (.t 19), none⟩,
      ⟨some 2, .mv (.t 20), none⟩] none)
    (.ret))))

def pf296 : PF := ⟨[.s 2], [], pb296⟩

-- loop.example/g00496/spec.SwapRefs
def pb337 : PC :=
.seq (.reg [1, 2, 4, 7, 8] [] [
   ⟨some 4, .box 2 (.t 0), none⟩,
   ⟨some 7, .box 5 (.t 3), none⟩,
   ⟨some 8, .alloc [(.v false (.int .i64 0)), (.nl 5)], none⟩,
   ⟨some 9, .mv (.c (.v false (.bool false))), none⟩] none)
 (.seq (.seq (.reg [1, 2, 4, 7, 8, 27] [] [
     ⟨some 11, .mv (.t 1), none⟩,
     ⟨some 12, .fad (.t 4) 1, none⟩,
     ⟨some 13, .ld false 1 (.t 12), none⟩,
     ⟨some 14, .len (.t 13), none⟩,
     ⟨some 15, .bin .sub (.t 14) (.c (.v false (.int .i64 1))), none⟩,
     ⟨some 16, .call 377 [] [(.t 11), (.c (.v false (.int .i64 0))), (.t 15)], none⟩,
     ⟨some 17, .un .not (.t 16), none⟩,
     ⟨some 18, .mv (.t 17), none⟩,
     ⟨some 19, .mv (.t 2), some (18, false)⟩,
     ⟨some 20, .fad (.t 4) 1, some (18, false)⟩,
     ⟨some 21, .ld false 1 (.t 20), some (18, false)⟩,
     ⟨some 22, .len (.t 21), some (18, false)⟩,
     ⟨some 23, .mv (.t 1), some (18, false)⟩,
     ⟨some 24, .bin .sub (.t 22) (.t 23), some (18, false)⟩,
     ⟨some 25, .call 377 [] [(.t 19), (.c (.v false (.int .i64 1))), (.t 24)], some (18, false)⟩,
     ⟨some 26, .un .not (.t 25), some (18, false)⟩,
     ⟨some 27, .pick (.t 18) (.c (.v false (.bool true))) (.t 26), none⟩] none)
   (.cond (.t 27) (.seq (.reg [8, 9] [] [
       ⟨some 28, .ld true 2 (.t 4), none⟩,
       ⟨some 29, .call 368 [] [(.t 28)], none⟩,
       ⟨none, .st 2 (.t 8) (.t 29), none⟩,
       ⟨some 9, .mv (.c (.v false (.bool false))), none⟩] none)
     (.ret))
    (.skip)))
  (.seq (.reg [4, 8, 10] [] [
     ⟨some 30, .fad (.t 4) 0, none⟩,
     ⟨some 31, .ld false 1 (.t 30), none⟩,
     ⟨some 32, .bin .add (.t 31) (.c (.v false (.int .i64 1))), none⟩,
     ⟨some 33, .bsl 5 [] 0 [], none⟩,
     ⟨some 34, .fad (.t 4) 1, none⟩,
     ⟨some 35, .ld false 1 (.t 34), none⟩,
     ⟨some 36, .mv (.t 1), none⟩,
     ⟨some 37, .slc 5 (.t 35) none (some (.t 36)), none⟩,
     ⟨some 38, .app 5 40 (.t 33) (.t 37), none⟩,
     ⟨some 39, .ld true 5 (.t 7), none⟩,
     ⟨some 40, .bsl 5 [.int .i64 0, .int .i64 0, .int .i64 0, .int .i64 0, .int .i64 0] 1 [(0, (.t 39))], none⟩,
     ⟨some 41, .app 5 40 (.t 38) (.t 40), none⟩,
     ⟨some 42, .fad (.t 4) 1, none⟩,
     ⟨some 43, .ld false 1 (.t 42), none⟩,
     ⟨some 44, .mv (.t 1), none⟩,
     ⟨some 45, .mv (.t 2), none⟩,
     ⟨some 46, .bin .add (.t 44) (.t 45), none⟩,
     ⟨some 47, .slc 5 (.t 43) (some (.t 46)) none, none⟩,
     ⟨some 48, .app 5 40 (.t 41) (.t 47), none⟩,
     ⟨some 49, .build [(.v false (.int .i64 0)), (.nl 5)] [(0, 1, (.t 32)), (1, 1, (.t 48))], none⟩,
     ⟨some 10, .alloc [(.v false (.int .i64 0)), (.nl 5)], none⟩,
     ⟨none, .st 2 (.t 10) (.t 49), none⟩] (some [(1, 3), (3, 5), (3, 7), (1, 8), (3, 9), (8, 9), (1, 10), (3, 10), (5, 10), (7, 10), (8, 10), (1, 11), (3, 13), (8, 13), (10, 13), (11, 13), (3, 17), (8, 17), (10, 17), (11, 17), (1, 18), (1, 20), (3, 20), (5, 20), (7, 20), (8, 20), (9, 20), (10, 20), (11, 20), (13, 20), (17, 20), (18, 20)]))
   (.seq (.seq (.reg [4, 8, 10, 59] [] [
       ⟨some 50, .ld true 2 (.t 10), none⟩,
       ⟨some 51, .call 271 [] [(.t 50)], none⟩,
       ⟨some 52, .un .not (.t 51), none⟩,
       ⟨some 53, .mv (.t 52), none⟩,
       ⟨some 54, .ld true 2 (.t 10), some (53, false)⟩,
       ⟨some 55, .call 296 [] [(.t 54)], some (53, false)⟩,
       ⟨some 56, .ld true 2 (.t 4), some (53, false)⟩,
       ⟨some 57, .call 296 [] [(.t 56)], some (53, false)⟩,
       ⟨some 58, .bin .neq (.t 55) (.t 57), some (53, false)⟩,
       ⟨some 59, .pick (.t 53) (.c (.v false (.bool true))) (.t 58), none⟩] (some [(5, 6)]))
     (.cond (.t 59) (.seq (.reg [8, 9] [] [
         ⟨some 60, .ld true 2 (.t 4), none⟩,
         ⟨some 61, .call 368 [] [(.t 60)], none⟩,
         ⟨none, .st 2 (.t 8) (.t 61), none⟩,
         ⟨some 9, .mv (.c (.v false (.bool false))), none⟩] none)
       (.ret))
      (.skip)))
    (.seq (.reg [8, 9] [] [
       ⟨some 62, .ld true 2 (.t 10), none⟩,
       ⟨none, .st 2 (.t 8) (.t 62), none⟩,
       ⟨some 9, .mv (.c (.v false (.bool true))), none⟩] none)
     (.ret)))))

def pf337 : PF := ⟨[.b 8 2 true, .s 9], [], pb337⟩

-- loop.example/g00496/spec.l18Copy
def pb368 : PC :=
.seq (.reg [1, 2] [] [
   ⟨some 1, .box 2 (.t 0), none⟩,
   ⟨some 2, .alloc [(.v false (.int .i64 0)), (.nl 5)], none⟩] none)
 (.seq (.reg [2] [] [
    ⟨some 3, .fad (.t 1) 0, none⟩,
    ⟨some 4, .ld false 1 (.t 3), none⟩,
    ⟨some 5, .bsl 5 [] 0 [], none⟩,
    ⟨some 6, .fad (.t 1) 1, none⟩,
    ⟨some 7, .ld false 1 (.t 6), none⟩,
    ⟨some 8, .app 5 40 (.t 5) (.t 7), none⟩,
    ⟨some 9, .build [(.v false (.int .i64 0)), (.nl 5)] [(0, 1, (.t 4)), (1, 1, (.t 8))], none⟩,
    ⟨none, .st 2 (.t 2) (.t 9), none⟩] (some [(1, 2), (2, 4), (1, 5)]))
  (.ret))

def pf368 : PF := ⟨[.b 2 2 true], [], pb368⟩

-- loop.example/g00496/spec.l18RefOk
def pb370 : PC :=
.seq (.reg [1] [] [
   ⟨some 1, .box 5 (.t 0), none⟩,
   ⟨some 2, .mv (.c (.v false (.bool false))), none⟩] none)
 (.seq (.reg [2] [(14, 2)] [
    ⟨some 3, .fad (.t 1) 0, none⟩,
    ⟨some 4, .ld false 1 (.t 3), none⟩,
    ⟨some 5, .bin .geq (.t 4) (.c (.v false (.int .i64 0))), none⟩,
    ⟨some 6, .mv (.t 5), none⟩,
    ⟨some 7, .fad (.t 1) 1, some (6, true)⟩,
    ⟨some 8, .ld false 1 (.t 7), some (6, true)⟩,
    ⟨some 9, .bin .geq (.t 8) (.c (.v false (.int .i64 0))), some (6, true)⟩,
    ⟨some 10, .pick (.t 6) (.t 9) (.c (.v false (.bool false))), none⟩,
    ⟨some 11, .mv (.t 10), none⟩,
    ⟨some 12, .fad (.t 1) 2, some (11, true)⟩,
    ⟨some 13, .ld false 1 (.t 12), some (11, true)⟩,
    ⟨some 14, .call 377 [] [(.t 13), (.c (.v false (.int .i64 1))), (.c (.v false (.int .i64 2)))], some (11, true)⟩,
    ⟨some 15, .pick (.t 11) (.t 14) (.c (.v false (.bool false))), none⟩,
    ⟨some 16, .mv (.t 15), none⟩,
    ⟨some 17, .fad (.t 1) 4, some (16, true)⟩,
    ⟨some 18, .ld false 1 (.t 17), some (16, true)⟩,
    ⟨some 19, .bin .geq (.t 18) (.c (.v false (.int .i64 1))), some (16, true)⟩,
    ⟨some 20, .pick (.t 16) (.t 19) (.c (.v false (.bool false))), none⟩,
    ⟨some 21, .mv (.t 20), none⟩,
    ⟨some 22, .fad (.t 1) 4, some (21, true)⟩,
    ⟨some 23, .ld false 1 (.t 22), some (21, true)⟩,
    ⟨some 24, .bin .leq (.t 23) (.c (.v false (.int .i64 1000000000))), some (21, true)⟩,
    ⟨some 25, .pick (.t 21) (.t 24) (.c (.v false (.bool false))), none⟩,
    ⟨some 2, .mv (.t 25), none⟩] none)
  (.ret))

def pf370 : PF := ⟨[.s 2], [], pb370⟩

-- loop.example/g00496/spec.l1In
def pb377 : PC :=
.seq (.reg [0, 1, 2] [] [
   ⟨some 6, .mv (.c (.v false (.bool false))), none⟩] none)
 (.seq (.reg [6] [] [
    ⟨some 7, .mv (.t 0), none⟩,
    ⟨some 8, .mv (.t 1), none⟩,
    ⟨some 9, .bin .geq (.t 7) (.t 8), none⟩,
    ⟨some 10, .mv (.t 9), none⟩,
    ⟨some 11, .mv (.t 0), some (10, true)⟩,
    ⟨some 12, .mv (.t 2), some (10, true)⟩,
    ⟨some 13, .bin .leq (.t 11) (.t 12), some (10, true)⟩,
    ⟨some 14, .pick (.t 10) (.t 13) (.c (.v false (.bool false))), none⟩,
    ⟨some 6, .mv (.t 14), none⟩] none)
  (.ret))

def pf377 : PF := ⟨[.s 6], [], pb377⟩

end Go.Proofs.Ytkhgflloifjniaa.OM
