/- The texts of the functions, as the own machine runs them. -/
import Derived.Test.YtkgibccknlbiaaaOMDef
set_option linter.all false
namespace Go.Proofs.Ytkgibccknlbiaaa.OM
set_option maxRecDepth 100000

-- loop.example/g00496/impl.DirOk
def pl15_0 : PC :=
.seq (.reg [1, 3, 16, 17, 18, 19] [] [
          ⟨some 19, .bin .lss (.t 18) (.t 17), none⟩] none)
        (.seq (.cond (.t 19) (.skip)
          (.exit 0))
         (.seq (.blk 1 (.seq (.reg [1, 3, 4, 5, 16, 17, 18] [] [
              ⟨some 20, .mv (.t 18), none⟩,
              ⟨some 21, .iad 5 (.t 16) (.t 18), none⟩,
              ⟨some 22, .ld true 5 (.t 21), none⟩,
              ⟨some 5, .alloc [(.v false (.int .i64 0)), (.v false (.int .i64 0)), (.v false (.int .i64 0)), (.v false (.int .i64 0)), (.v false (.int .i64 0))], none⟩,
              ⟨some 4, .mv (.t 20), none⟩,
              ⟨none, .st 5 (.t 5) (.t 22), none⟩] none)
            (.seq (.seq (.reg [1, 3, 5, 16, 17, 18, 41] [(40, 41)] [
                ⟨some 23, .ld true 5 (.t 5), none⟩,
                ⟨some 24, .call 82 [] [(.t 23)], none⟩,
                ⟨some 25, .un .not (.t 24), none⟩,
                ⟨some 26, .mv (.t 25), none⟩,
                ⟨some 27, .fad (.t 5) 3, some (26, false)⟩,
                ⟨some 28, .ld false 1 (.t 27), some (26, false)⟩,
                ⟨some 29, .mv (.t 3), some (26, false)⟩,
                ⟨some 30, .bin .neq (.t 28) (.t 29), some (26, false)⟩,
                ⟨some 31, .pick (.t 26) (.c (.v false (.bool true))) (.t 30), none⟩,
                ⟨some 32, .mv (.t 31), none⟩,
                ⟨some 33, .fad (.t 1) 1, some (32, false)⟩,
                ⟨some 34, .ld false 1 (.t 33), some (32, false)⟩,
                ⟨some 35, .mv (.t 4), some (32, false)⟩,
                ⟨some 36, .slc 5 (.t 34) none (some (.t 35)), some (32, false)⟩,
                ⟨some 37, .build [(.v false (.int .i64 0)), (.nl 5)] [(1, 1, (.t 36))], some (32, false)⟩,
                ⟨some 38, .fad (.t 5) 0, some (32, false)⟩,
                ⟨some 39, .ld false 1 (.t 38), some (32, false)⟩,
                ⟨some 40, .call 22 [] [(.t 37), (.t 39)], some (32, false)⟩,
                ⟨some 41, .pick (.t 32) (.c (.v false (.bool true))) (.t 40), none⟩] (some []))
              (.cond (.t 41) (.seq (.reg [2] [] [
                  ⟨some 2, .mv (.c (.v false (.bool false))), none⟩] none)
                (.ret))
               (.skip)))
             (.reg [1, 3, 16, 17, 18] [] [
               ⟨some 42, .mv (.t 3), none⟩,
               ⟨some 43, .fad (.t 5) 4, none⟩,
               ⟨some 44, .ld false 1 (.t 43), none⟩,
               ⟨some 45, .bin .add (.t 42) (.t 44), none⟩,
               ⟨some 3, .mv (.t 45), none⟩] none))))
          (.reg [1, 3, 16, 17, 18] [] [
            ⟨some 46, .bin .add (.t 18) (.c (.v false (.int .i64 1))), none⟩,
            ⟨some 18, .mv (.t 46), none⟩] none)))

def pb15 : PC :=
.seq (.reg [1] [] [
   ⟨some 1, .box 2 (.t 0), none⟩,
   ⟨some 2, .mv (.c (.v false (.bool false))), none⟩] none)
 (.seq (.seq (.reg [1, 14] [] [
     ⟨some 6, .fad (.t 1) 0, none⟩,
     ⟨some 7, .ld false 1 (.t 6), none⟩,
     ⟨some 8, .bin .lss (.t 7) (.c (.v false (.int .i64 0))), none⟩,
     ⟨some 9, .mv (.t 8), none⟩,
     ⟨some 10, .fad (.t 1) 1, some (9, false)⟩,
     ⟨some 11, .ld false 1 (.t 10), some (9, false)⟩,
     ⟨some 12, .len (.t 11), some (9, false)⟩,
     ⟨some 13, .bin .gtr (.t 12) (.c (.v false (.int .i64 8))), some (9, false)⟩,
     ⟨some 14, .pick (.t 9) (.c (.v false (.bool true))) (.t 13), none⟩] none)
   (.cond (.t 14) (.seq (.reg [2] [] [
       ⟨some 2, .mv (.c (.v false (.bool false))), none⟩] none)
     (.ret))
    (.skip)))
  (.seq (.reg [1, 3] [] [
     ⟨some 3, .mv (.c (.v false (.int .i64 0))), none⟩] none)
   (.seq (.seq (.reg [1, 3, 16, 17, 18] [] [
       ⟨some 15, .fad (.t 1) 1, none⟩,
       ⟨some 16, .ld false 1 (.t 15), none⟩,
       ⟨some 17, .len (.t 16), none⟩,
       ⟨some 18, .mv (.c (.v false (.int .i64 0))), none⟩] none)
     (.blk 0 (.loop pl15_0)))
    (.seq (.reg [2] [] [
       ⟨some 2, .mv (.c (.v false (.bool true))), none⟩] none)
     (.ret)))))

def pf15 : PF := ⟨[.s 2], [], pb15⟩

-- loop.example/g00496/impl.EndOf
def pb16 : PC :=
.seq (.reg [1] [] [
   ⟨some 1, .box 2 (.t 0), none⟩,
   ⟨some 2, .mv (.c (.v false (.int .i64 0))), none⟩] none)
 (.seq (.seq (.reg [1, 7] [] [
     ⟨some 4, .fad (.t 1) 1, none⟩,
     ⟨some 5, .ld false 1 (.t 4), none⟩,
     ⟨some 6, .len (.t 5), none⟩,
     ⟨some 7, .bin .eql (.t 6) (.c (.v false (.int .i64 0))), none⟩] none)
   (.cond (.t 7) (.seq (.reg [2] [] [
       ⟨some 2, .mv (.c (.v false (.int .i64 0))), none⟩] none)
     (.ret))
    (.skip)))
  (.seq (.reg [3] [] [
     ⟨some 8, .fad (.t 1) 1, none⟩,
     ⟨some 9, .ld false 1 (.t 8), none⟩,
     ⟨some 10, .fad (.t 1) 1, none⟩,
     ⟨some 11, .ld false 1 (.t 10), none⟩,
     ⟨some 12, .len (.t 11), none⟩,
     ⟨some 13, .bin .sub (.t 12) (.c (.v false (.int .i64 1))), none⟩,
     ⟨some 14, .iad 5 (.t 9) (.t 13), none⟩,
     ⟨some 15, .ld true 5 (.t 14), none⟩,
     ⟨some 3, .alloc [(.v false (.int .i64 0)), (.v false (.int .i64 0)), (.v false (.int .i64 0)), (.v false (.int .i64 0)), (.v false (.int .i64 0))], none⟩,
     ⟨none, .st 5 (.t 3) (.t 15), none⟩] none)
   (.seq (.reg [2] [] [
      ⟨some 16, .fad (.t 3) 3, none⟩,
      ⟨some 17, .ld false 1 (.t 16), none⟩,
      ⟨some 18, .fad (.t 3) 4, none⟩,
      ⟨some 19, .ld false 1 (.t 18), none⟩,
      ⟨some 20, .bin .add (.t 17) (.t 19), none⟩,
      ⟨some 2, .mv (.t 20), none⟩] none)
    (.ret))))

def pf16 : PF := ⟨[.s 2], [], pb16⟩

-- loop.example/g00496/impl.HasBuf
def pl22_0 : PC :=
.seq (.reg [1, 2, 8, 9, 10, 11] [] [
        ⟨some 11, .bin .lss (.t 10) (.t 9), none⟩] none)
      (.seq (.cond (.t 11) (.skip)
        (.exit 0))
       (.seq (.blk 1 (.seq (.reg [1, 2, 6, 8, 9, 10] [] [
            ⟨some 12, .iad 5 (.t 8) (.t 10), none⟩,
            ⟨some 13, .ld true 5 (.t 12), none⟩,
            ⟨some 6, .alloc [(.v false (.int .i64 0)), (.v false (.int .i64 0)), (.v false (.int .i64 0)), (.v false (.int .i64 0)), (.v false (.int .i64 0))], none⟩,
            ⟨none, .st 5 (.t 6) (.t 13), none⟩] none)
          (.seq (.reg [1, 2, 8, 9, 10, 17] [] [
             ⟨some 14, .fad (.t 6) 0, none⟩,
             ⟨some 15, .ld false 1 (.t 14), none⟩,
             ⟨some 16, .mv (.t 1), none⟩,
             ⟨some 17, .bin .eql (.t 15) (.t 16), none⟩] none)
           (.cond (.t 17) (.seq (.reg [4] [] [
               ⟨some 4, .mv (.c (.v false (.bool true))), none⟩] none)
             (.ret))
            (.skip)))))
        (.reg [1, 2, 8, 9, 10] [] [
          ⟨some 18, .bin .add (.t 10) (.c (.v false (.int .i64 1))), none⟩,
          ⟨some 10, .mv (.t 18), none⟩] none)))

def pb22 : PC :=
.seq (.reg [1, 2] [] [
   ⟨some 2, .box 2 (.t 0), none⟩,
   ⟨some 4, .mv (.c (.v false (.bool false))), none⟩] none)
 (.seq (.seq (.reg [1, 2, 8, 9, 10] [] [
     ⟨some 7, .fad (.t 2) 1, none⟩,
     ⟨some 8, .ld false 1 (.t 7), none⟩,
     ⟨some 9, .len (.t 8), none⟩,
     ⟨some 10, .mv (.c (.v false (.int .i64 0))), none⟩] none)
   (.blk 0 (.loop pl22_0)))
  (.seq (.reg [4] [] [
     ⟨some 4, .mv (.c (.v false (.bool false))), none⟩] none)
   (.ret)))

def pf22 : PF := ⟨[.s 4], [], pb22⟩

-- loop.example/g00496/impl.SwapRefs
def pb56 : PC :=
.seq (.reg [1, 2, 4, 7, 8] [] [
   ⟨some 4, .box 2 (.t 0), none⟩,
   ⟨some 7, .box 5 (.t 3), none⟩,
   ⟨some 8, .alloc [(.v false (.int .i64 0)), (.nl 5)], none⟩,
   ⟨some 9, .mv (.c (.v false (.bool false))), none⟩] none)
 (.seq (.seq (.reg [1, 2, 4, 7, 8, 32] [] [
     ⟨some 11, .mv (.t 1), none⟩,
     ⟨some 12, .bin .lss (.t 11) (.c (.v false (.int .i64 0))), none⟩,
     ⟨some 13, .mv (.t 12), none⟩,
     ⟨some 14, .mv (.t 1), some (13, false)⟩,
     ⟨some 15, .fad (.t 4) 1, some (13, false)⟩,
     ⟨some 16, .ld false 1 (.t 15), some (13, false)⟩,
     ⟨some 17, .len (.t 16), some (13, false)⟩,
     ⟨some 18, .bin .gtr (.t 14) (.t 17), some (13, false)⟩,
     ⟨some 19, .pick (.t 13) (.c (.v false (.bool true))) (.t 18), none⟩,
     ⟨some 20, .mv (.t 19), none⟩,
     ⟨some 21, .mv (.t 2), some (20, false)⟩,
     ⟨some 22, .bin .lss (.t 21) (.c (.v false (.int .i64 1))), some (20, false)⟩,
     ⟨some 23, .pick (.t 20) (.c (.v false (.bool true))) (.t 22), none⟩,
     ⟨some 24, .mv (.t 23), none⟩,
     ⟨some 25, .mv (.t 2), some (24, false)⟩,
     ⟨some 26, .fad (.t 4) 1, some (24, false)⟩,
     ⟨some 27, .ld false 1 (.t 26), some (24, false)⟩,
     ⟨some 28, .len (.t 27), some (24, false)⟩,
     ⟨some 29, .mv (.t 1), some (24, false)⟩,
     ⟨some 30, .bin .sub (.t 28) (.t 29), some (24, false)⟩,
     ⟨some 31, .bin .gtr (.t 25) (.t 30), some (24, false)⟩,
     ⟨some 32, .pick (.t 24) (.c (.v false (.bool true))) (.t 31), none⟩] none)
   (.cond (.t 32) (.seq (.reg [8, 9] [] [
       ⟨some 33, .ld true 2 (.t 4), none⟩,
       ⟨some 34, .call 71 [] [(.t 33)], none⟩,
       ⟨none, .st 2 (.t 8) (.t 34), none⟩,
       ⟨some 9, .mv (.c (.v false (.bool false))), none⟩] none)
     (.ret))
    (.skip)))
  (.seq (.reg [1, 2, 4, 8, 10] [] [
     ⟨some 35, .fad (.t 4) 0, none⟩,
     ⟨some 36, .ld false 1 (.t 35), none⟩,
     ⟨some 37, .bin .add (.t 36) (.c (.v false (.int .i64 1))), none⟩,
     ⟨some 38, .fad (.t 4) 1, none⟩,
     ⟨some 39, .ld false 1 (.t 38), none⟩,
     ⟨some 40, .mv (.t 1), none⟩,
     ⟨some 41, .slc 5 (.t 39) none (some (.t 40)), none⟩,
     ⟨some 42, .call 74 [] [(.t 41)], none⟩,
     ⟨some 43, .ld true 5 (.t 7), none⟩,
     ⟨some 44, .bsl 5 [.int .i64 0, .int .i64 0, .int .i64 0, .int .i64 0, .int .i64 0] 1 [(0, (.t 43))], none⟩,
     ⟨some 45, .app 5 40 (.t 42) (.t 44), none⟩,
     ⟨some 46, .build [(.v false (.int .i64 0)), (.nl 5)] [(0, 1, (.t 37)), (1, 1, (.t 45))], none⟩,
     ⟨some 10, .alloc [(.v false (.int .i64 0)), (.nl 5)], none⟩,
     ⟨none, .st 2 (.t 10) (.t 46), none⟩] (some [(1, 7), (7, 8), (1, 9), (4, 9), (6, 9), (7, 9), (1, 10), (1, 12), (4, 12), (6, 12), (7, 12), (8, 12), (9, 12), (10, 12)]))
   (.seq (.reg [4, 8, 10] [] [
      ⟨some 47, .fad (.t 10) 1, none⟩,
      ⟨some 48, .ld false 1 (.t 47), none⟩,
      ⟨some 49, .fad (.t 4) 1, none⟩,
      ⟨some 50, .ld false 1 (.t 49), none⟩,
      ⟨some 51, .mv (.t 1), none⟩,
      ⟨some 52, .mv (.t 2), none⟩,
      ⟨some 53, .bin .add (.t 51) (.t 52), none⟩,
      ⟨some 54, .slc 5 (.t 50) (some (.t 53)) none, none⟩,
      ⟨some 55, .app 5 40 (.t 48) (.t 54), none⟩,
      ⟨some 56, .fad (.t 10) 1, none⟩,
      ⟨none, .st 1 (.t 56) (.t 55), none⟩] (some []))
    (.seq (.seq (.reg [4, 8, 10, 66] [] [
        ⟨some 57, .ld true 2 (.t 10), none⟩,
        ⟨some 58, .call 15 [] [(.t 57)], none⟩,
        ⟨some 59, .un .not (.t 58), none⟩,
        ⟨some 60, .mv (.t 59), none⟩,
        ⟨some 61, .ld true 2 (.t 10), some (60, false)⟩,
        ⟨some 62, .call 16 [] [(.t 61)], some (60, false)⟩,
        ⟨some 63, .ld true 2 (.t 4), some (60, false)⟩,
        ⟨some 64, .call 16 [] [(.t 63)], some (60, false)⟩,
        ⟨some 65, .bin .neq (.t 62) (.t 64), some (60, false)⟩,
        ⟨some 66, .pick (.t 60) (.c (.v false (.bool true))) (.t 65), none⟩] (some [(5, 6)]))
      (.cond (.t 66) (.seq (.reg [8, 9] [] [
          ⟨some 67, .ld true 2 (.t 4), none⟩,
          ⟨some 68, .call 71 [] [(.t 67)], none⟩,
          ⟨none, .st 2 (.t 8) (.t 68), none⟩,
          ⟨some 9, .mv (.c (.v false (.bool false))), none⟩] none)
        (.ret))
       (.skip)))
     (.seq (.reg [8, 9] [] [
        ⟨some 69, .ld true 2 (.t 10), none⟩,
        ⟨none, .st 2 (.t 8) (.t 69), none⟩,
        ⟨some 9, .mv (.c (.v false (.bool true))), none⟩] none)
      (.ret))))))

def pf56 : PF := ⟨[.b 8 2 true, .s 9], [], pb56⟩

-- loop.example/g00496/impl.cloneDir
def pb71 : PC :=
.seq (.reg [1, 2] [] [
   ⟨some 1, .box 2 (.t 0), none⟩,
   ⟨some 2, .alloc [(.v false (.int .i64 0)), (.nl 5)], none⟩] none)
 (.seq (.reg [2] [] [
    ⟨some 3, .fad (.t 1) 0, none⟩,
    ⟨some 4, .ld false 1 (.t 3), none⟩,
    ⟨some 5, .fad (.t 1) 1, none⟩,
    ⟨some 6, .ld false 1 (.t 5), none⟩,
    ⟨some 7, .call 74 [] [(.t 6)], none⟩,
    ⟨some 8, .build [(.v false (.int .i64 0)), (.nl 5)] [(0, 1, (.t 4)), (1, 1, (.t 7))], none⟩,
    ⟨none, .st 2 (.t 2) (.t 8), none⟩] (some [(1, 4)]))
  (.ret))

def pf71 : PF := ⟨[.b 2 2 true], [], pb71⟩

-- loop.example/g00496/impl.cloneRefs
def pb74 : PC :=
.seq (.reg [0] [] [
   ⟨some 2, .mv (.c (.nl 5)), none⟩] none)
 (.seq (.reg [2] [(5, 2)] [
    ⟨some 3, .bsl 5 [] 0 [], none⟩,
    ⟨some 4, .mv (.t 0), none⟩,
    ⟨some 5, .app 5 40 (.t 3) (.t 4), none⟩,
    ⟨some 2, .mv (.t 5), none⟩] none)
  (.ret))

def pf74 : PF := ⟨[.s 2], [], pb74⟩

-- loop.example/g00496/impl.refOk
def pb82 : PC :=
.seq (.reg [1] [] [
   ⟨some 1, .box 5 (.t 0), none⟩,
   ⟨some 2, .mv (.c (.v false (.bool false))), none⟩] none)
 (.seq (.reg [2] [(24, 2)] [
    ⟨some 3, .fad (.t 1) 0, none⟩,
    ⟨some 4, .ld false 1 (.t 3), none⟩,
    ⟨some 5, .bin .geq (.t 4) (.c (.v false (.int .i64 0))), none⟩,
    ⟨some 6, .mv (.t 5), none⟩,
    ⟨some 7, .fad (.t 1) 1, some (6, true)⟩,
    ⟨some 8, .ld false 1 (.t 7), some (6, true)⟩,
    ⟨some 9, .bin .geq (.t 8) (.c (.v false (.int .i64 0))), some (6, true)⟩,
    ⟨some 10, .pick (.t 6) (.t 9) (.c (.v false (.bool false))), none⟩,
    ⟨some 11, .mv (.t 10), none⟩,
    ⟨some 12, .fad (.t 1) 2, some (11, true)⟩,
    ⟨some 13, .ld false 1 (.t 12), some (11, true)⟩,
    ⟨some 14, .bin .eql (.t 13) (.c (.v false (.int .i64 1))), some (11, true)⟩,
    ⟨some 15, .mv (.t 14), some (11, true)⟩,
    ⟨some 16, .fad (.t 1) 2, some (15, false)⟩,
    ⟨some 17, .ld false 1 (.t 16), some (15, false)⟩,
    ⟨some 18, .bin .eql (.t 17) (.c (.v false (.int .i64 2))), some (15, false)⟩,
    ⟨some 19, .pick (.t 15) (.c (.v false (.bool true))) (.t 18), some (11, true)⟩,
    ⟨some 20, .pick (.t 11) (.t 19) (.c (.v false (.bool false))), none⟩,
    ⟨some 21, .mv (.t 20), none⟩,
    ⟨some 22, .fad (.t 1) 4, some (21, true)⟩,
    ⟨some 23, .ld false 1 (.t 22), some (21, true)⟩,
    ⟨some 24, .call 87 [] [(.t 23), (.c (.v false (.int .i64 1))), (.c (.v false (.int .i64 1000000000)))], some (21, true)⟩,
    ⟨some 25, .pick (.t 21) (.t 24) (.c (.v false (.bool false))), none⟩,
    ⟨some 2, .mv (.t 25), none⟩] none)
  (.ret))

def pf82 : PF := ⟨[.s 2], [], pb82⟩

-- loop.example/g00496/impl.within
def pb87 : PC :=
.seq (.reg [0, 1, 2] [] [
   ⟨some 6, .mv (.c (.v false (.bool false))), none⟩] none)
 (.seq (.reg [6] [] [
    ⟨some 7, .mv (.t 0), none⟩,
    ⟨some 8, .mv (.t 1), none⟩,
    ⟨some 9, .bin .geq (.t 7) (.t 8), none⟩,
    ⟨some 10, .mv (.t 9), none⟩,
    ⟨some 11, .mv (.t 0), some (10, true)⟩,
    ⟨some 12, .mv (.t 2), some (10, true)⟩,
    ⟨some 13, .bin .leq (.t 11) (.t 12), some (10, true)⟩,
    ⟨some 14, .pick (.t 10) (.t 13) (.c (.v false (.bool false))), none⟩,
    ⟨some 6, .mv (.t 14), none⟩] none)
  (.ret))

def pf87 : PF := ⟨[.s 6], [], pb87⟩

-- loop.example/g00496/laws.FnSwaps
def pb138 : PC :=
.seq (.reg [0] [] [
   ⟨some 2, .mv (.c (.v false (.bool false))), none⟩] none)
 (.seq (.seq (.reg [0, 12] [] [
     ⟨some 11, .mv (.t 0), none⟩,
     ⟨some 12, .call 141 [] [(.t 11)], none⟩] none)
   (.cond (.t 12) (.seq (.reg [2] [] [
       ⟨some 2, .mv (.c (.v false (.bool true))), none⟩] none)
     (.ret))
    (.skip)))
  (.seq (.reg [3, 4, 5, 6] [(15, 4)] [
     ⟨some 14, .mv (.t 0), none⟩,
     ⟨some 15, .call 291 [] [(.t 14)], none⟩,
     ⟨some 13, .mv (.t 15), none⟩,
     ⟨some 16, .ext (.t 13) 0, none⟩,
     ⟨some 17, .ext (.t 13) 1, none⟩,
     ⟨some 18, .ext (.t 13) 2, none⟩,
     ⟨some 19, .ext (.t 13) 3, none⟩,
     ⟨some 3, .alloc [(.v false (.int .i64 0)), (.nl 5)], none⟩,
     ⟨some 6, .alloc [(.v false (.int .i64 0)), (.v false (.int .i64 0)), (.v false (.int .i64 0)), (.v false (.int .i64 0)), (.v false (.int .i64 0))], none⟩,
     ⟨none, .st 2 (.t 3) (.t 16), none⟩,
     ⟨some 4, .mv (.t 17), none⟩,
     ⟨some 5, .mv (.t 18), none⟩,
     ⟨none, .st 5 (.t 6) (.t 19), none⟩] none)
   (.seq (.reg [3, 4, 5, 6, 7, 8] [(25, 8)] [
      ⟨some 21, .ld true 2 (.t 3), none⟩,
      ⟨some 22, .mv (.t 4), none⟩,
      ⟨some 23, .mv (.t 5), none⟩,
      ⟨some 24, .ld true 5 (.t 6), none⟩,
      ⟨some 25, .call 56 [] [(.t 21), (.t 22), (.t 23), (.t 24)], none⟩,
      ⟨some 20, .mv (.t 25), none⟩,
      ⟨some 26, .ext (.t 20) 0, none⟩,
      ⟨some 27, .ext (.t 20) 1, none⟩,
      ⟨some 7, .alloc [(.v false (.int .i64 0)), (.nl 5)], none⟩,
      ⟨none, .st 2 (.t 7) (.t 26), none⟩,
      ⟨some 8, .mv (.t 27), none⟩] none)
    (.seq (.reg [3, 4, 5, 6, 7, 8, 9, 10] [(33, 10)] [
       ⟨some 29, .ld true 2 (.t 3), none⟩,
       ⟨some 30, .mv (.t 4), none⟩,
       ⟨some 31, .mv (.t 5), none⟩,
       ⟨some 32, .ld true 5 (.t 6), none⟩,
       ⟨some 33, .call 337 [] [(.t 29), (.t 30), (.t 31), (.t 32)], none⟩,
       ⟨some 28, .mv (.t 33), none⟩,
       ⟨some 34, .ext (.t 28) 0, none⟩,
       ⟨some 35, .ext (.t 28) 1, none⟩,
       ⟨some 9, .alloc [(.v false (.int .i64 0)), (.nl 5)], none⟩,
       ⟨none, .st 2 (.t 9) (.t 34), none⟩,
       ⟨some 10, .mv (.t 35), none⟩] none)
     (.seq (.seq (.reg [3, 4, 5, 6, 7, 8, 44] [] [
         ⟨some 36, .ld true 2 (.t 7), none⟩,
         ⟨some 37, .ld true 2 (.t 9), none⟩,
         ⟨some 38, .call 202 [] [(.t 36), (.t 37)], none⟩,
         ⟨some 39, .un .not (.t 38), none⟩,
         ⟨some 40, .mv (.t 39), none⟩,
         ⟨some 41, .mv (.t 8), some (40, false)⟩,
         ⟨some 42, .mv (.t 10), some (40, false)⟩,
         ⟨some 43, .eqb true (.t 41) (.t 42), some (40, false)⟩,
         ⟨some 44, .pick (.t 40) (.c (.v false (.bool true))) (.t 43), none⟩] none)
       (.cond (.t 44) (.seq (.reg [2] [] [
           ⟨some 2, .mv (.c (.v false (.bool false))), none⟩] none)
         (.ret))
        (.skip)))
      (.seq (.seq (.reg [3, 4, 5, 6, 7, 46] [] [
          ⟨some 45, .mv (.t 8), none⟩,
          ⟨some 46, .un .not (.t 45), none⟩] none)
        (.cond (.t 46) (.seq (.reg [2] [(49, 2)] [
            ⟨some 47, .ld true 2 (.t 7), none⟩,
            ⟨some 48, .ld true 2 (.t 3), none⟩,
            ⟨some 49, .call 202 [] [(.t 47), (.t 48)], none⟩,
            ⟨some 2, .mv (.t 49), none⟩] none)
          (.ret))
         (.skip)))
       (.seq (.reg [2, 89, 103] [(51, 2)] [
          ⟨some 50, .ld true 2 (.t 7), none⟩,
          ⟨some 51, .call 15 [] [(.t 50)], none⟩,
          ⟨some 52, .mv (.t 51), none⟩,
          ⟨some 53, .ld true 2 (.t 7), some (52, true)⟩,
          ⟨some 54, .call 16 [] [(.t 53)], some (52, true)⟩,
          ⟨some 55, .ld true 2 (.t 3), some (52, true)⟩,
          ⟨some 56, .call 16 [] [(.t 55)], some (52, true)⟩,
          ⟨some 57, .bin .eql (.t 54) (.t 56), some (52, true)⟩,
          ⟨some 58, .pick (.t 52) (.t 57) (.c (.v false (.bool false))), none⟩,
          ⟨some 59, .mv (.t 58), none⟩,
          ⟨some 60, .fad (.t 7) 1, some (59, true)⟩,
          ⟨some 61, .ld false 1 (.t 60), some (59, true)⟩,
          ⟨some 62, .len (.t 61), some (59, true)⟩,
          ⟨some 63, .fad (.t 3) 1, some (59, true)⟩,
          ⟨some 64, .ld false 1 (.t 63), some (59, true)⟩,
          ⟨some 65, .len (.t 64), some (59, true)⟩,
          ⟨some 66, .mv (.t 5), some (59, true)⟩,
          ⟨some 67, .bin .sub (.t 65) (.t 66), some (59, true)⟩,
          ⟨some 68, .bin .add (.t 67) (.c (.v false (.int .i64 1))), some (59, true)⟩,
          ⟨some 69, .bin .eql (.t 62) (.t 68), some (59, true)⟩,
          ⟨some 70, .pick (.t 59) (.t 69) (.c (.v false (.bool false))), none⟩,
          ⟨some 71, .mv (.t 70), none⟩,
          ⟨some 72, .fad (.t 7) 1, some (71, true)⟩,
          ⟨some 73, .ld false 1 (.t 72), some (71, true)⟩,
          ⟨some 74, .mv (.t 4), some (71, true)⟩,
          ⟨some 75, .iad 5 (.t 73) (.t 74), some (71, true)⟩,
          ⟨some 76, .ld true 5 (.t 75), some (71, true)⟩,
          ⟨some 77, .ld true 5 (.t 6), some (71, true)⟩,
          ⟨some 78, .eqs false [0, 0, 0, 0, 0] (.t 76) (.t 77), some (71, true)⟩,
          ⟨some 79, .pick (.t 71) (.t 78) (.c (.v false (.bool false))), none⟩,
          ⟨some 80, .mv (.t 79), none⟩,
          ⟨some 81, .fad (.t 7) 1, some (80, true)⟩,
          ⟨some 82, .ld false 1 (.t 81), some (80, true)⟩,
          ⟨some 83, .mv (.t 4), some (80, true)⟩,
          ⟨some 84, .slc 5 (.t 82) none (some (.t 83)), some (80, true)⟩,
          ⟨some 85, .fad (.t 3) 1, some (80, true)⟩,
          ⟨some 86, .ld false 1 (.t 85), some (80, true)⟩,
          ⟨some 87, .mv (.t 4), some (80, true)⟩,
          ⟨some 88, .slc 5 (.t 86) none (some (.t 87)), some (80, true)⟩,
          ⟨some 89, .call 206 [] [(.t 84), (.t 88)], some (80, true)⟩,
          ⟨some 90, .pick (.t 80) (.t 89) (.c (.v false (.bool false))), none⟩,
          ⟨some 91, .mv (.t 90), none⟩,
          ⟨some 92, .fad (.t 7) 1, some (91, true)⟩,
          ⟨some 93, .ld false 1 (.t 92), some (91, true)⟩,
          ⟨some 94, .mv (.t 4), some (91, true)⟩,
          ⟨some 95, .bin .add (.t 94) (.c (.v false (.int .i64 1))), some (91, true)⟩,
          ⟨some 96, .slc 5 (.t 93) (some (.t 95)) none, some (91, true)⟩,
          ⟨some 97, .fad (.t 3) 1, some (91, true)⟩,
          ⟨some 98, .ld false 1 (.t 97), some (91, true)⟩,
          ⟨some 99, .mv (.t 4), some (91, true)⟩,
          ⟨some 100, .mv (.t 5), some (91, true)⟩,
          ⟨some 101, .bin .add (.t 99) (.t 100), some (91, true)⟩,
          ⟨some 102, .slc 5 (.t 98) (some (.t 101)) none, some (91, true)⟩,
          ⟨some 103, .call 206 [] [(.t 96), (.t 102)], some (91, true)⟩,
          ⟨some 104, .pick (.t 91) (.t 103) (.c (.v false (.bool false))), none⟩,
          ⟨some 105, .mv (.t 104), none⟩,
          ⟨some 106, .fad (.t 7) 0, some (105, true)⟩,
          ⟨some 107, .ld false 1 (.t 106), some (105, true)⟩,
          ⟨some 108, .fad (.t 3) 0, some (105, true)⟩,
          ⟨some 109, .ld false 1 (.t 108), some (105, true)⟩,
          ⟨some 110, .bin .add (.t 109) (.c (.v false (.int .i64 1))), some (105, true)⟩,
          ⟨some 111, .bin .eql (.t 107) (.t 110), some (105, true)⟩,
          ⟨some 112, .pick (.t 105) (.t 111) (.c (.v false (.bool false))), none⟩,
          ⟨some 2, .mv (.t 112), none⟩] (some [(4, 5)]))
        (.ret))))))))

def pf138 : PF := ⟨[.s 2], [], pb138⟩

-- loop.example/g00496/laws.big
def pb141 : PC :=
.seq (.reg [0] [] [
   ⟨some 2, .mv (.c (.v false (.bool false))), none⟩] none)
 (.seq (.reg [2] [] [
    ⟨some 3, .mv (.t 0), none⟩,
    ⟨some 4, .len (.t 3), none⟩,
    ⟨some 5, .bin .gtr (.t 4) (.c (.v false (.int .i64 1048576))), none⟩,
    ⟨some 2, .mv (.t 5), none⟩] none)
  (.ret))

def pf141 : PF := ⟨[.s 2], [], pb141⟩

-- loop.example/g00496/laws.sameDir
def pb202 : PC :=
.seq (.reg [2, 3] [] [
   ⟨some 2, .box 2 (.t 0), none⟩,
   ⟨some 3, .box 2 (.t 1), none⟩,
   ⟨some 4, .mv (.c (.v false (.bool false))), none⟩] none)
 (.seq (.reg [4] [(15, 4)] [
    ⟨some 5, .fad (.t 2) 0, none⟩,
    ⟨some 6, .ld false 1 (.t 5), none⟩,
    ⟨some 7, .fad (.t 3) 0, none⟩,
    ⟨some 8, .ld false 1 (.t 7), none⟩,
    ⟨some 9, .bin .eql (.t 6) (.t 8), none⟩,
    ⟨some 10, .mv (.t 9), none⟩,
    ⟨some 11, .fad (.t 2) 1, some (10, true)⟩,
    ⟨some 12, .ld false 1 (.t 11), some (10, true)⟩,
    ⟨some 13, .fad (.t 3) 1, some (10, true)⟩,
    ⟨some 14, .ld false 1 (.t 13), some (10, true)⟩,
    ⟨some 15, .call 206 [] [(.t 12), (.t 14)], some (10, true)⟩,
    ⟨some 16, .pick (.t 10) (.t 15) (.c (.v false (.bool false))), none⟩,
    ⟨some 4, .mv (.t 16), none⟩] none)
  (.ret))

def pf202 : PF := ⟨[.s 4], [], pb202⟩

-- loop.example/g00496/laws.sameRefs
def pl206_0 : PC :=
.seq (.seq (.reg [0, 1, 5, 14] [] [
          ⟨some 11, .mv (.t 5), none⟩,
          ⟨some 12, .mv (.t 0), none⟩,
          ⟨some 13, .len (.t 12), none⟩,
          ⟨some 14, .bin .lss (.t 11) (.t 13), none⟩] none)
        (.cond (.t 14) (.skip)
         (.exit 0)))
       (.seq (.blk 1 (.seq (.reg [0, 1, 5, 25] [] [
            ⟨some 17, .mv (.t 0), none⟩,
            ⟨some 18, .mv (.t 5), none⟩,
            ⟨some 19, .iad 5 (.t 17) (.t 18), none⟩,
            ⟨some 20, .ld true 5 (.t 19), none⟩,
            ⟨some 21, .mv (.t 1), none⟩,
            ⟨some 22, .mv (.t 5), none⟩,
            ⟨some 23, .iad 5 (.t 21) (.t 22), none⟩,
            ⟨some 24, .ld true 5 (.t 23), none⟩,
            ⟨some 25, .eqs true [0, 0, 0, 0, 0] (.t 20) (.t 24), none⟩] (some []))
          (.cond (.t 25) (.seq (.reg [4] [] [
              ⟨some 4, .mv (.c (.v false (.bool false))), none⟩] none)
            (.ret))
           (.skip))))
        (.reg [0, 1, 5] [] [
          ⟨some 15, .mv (.t 5), none⟩,
          ⟨some 16, .bin .add (.t 15) (.c (.v false (.int .i64 1))), none⟩,
          ⟨some 5, .mv (.t 16), none⟩] none))

def pb206 : PC :=
.seq (.reg [0, 1] [] [
   ⟨some 4, .mv (.c (.v false (.bool false))), none⟩] none)
 (.seq (.seq (.reg [0, 1, 10] [] [
     ⟨some 6, .mv (.t 0), none⟩,
     ⟨some 7, .len (.t 6), none⟩,
     ⟨some 8, .mv (.t 1), none⟩,
     ⟨some 9, .len (.t 8), none⟩,
     ⟨some 10, .bin .neq (.t 7) (.t 9), none⟩] none)
   (.cond (.t 10) (.seq (.reg [4] [] [
       ⟨some 4, .mv (.c (.v false (.bool false))), none⟩] none)
     (.ret))
    (.skip)))
  (.seq (.seq (.reg [0, 1, 5] [] [
      ⟨some 5, .mv (.c (.v false (.int .i64 0))), none⟩] none)
    (.blk 0 (.loop pl206_0)))
   (.seq (.reg [4] [] [
      ⟨some 4, .mv (.c (.v false (.bool true))), none⟩] none)
    (.ret))))

def pf206 : PF := ⟨[.s 4], [], pb206⟩

-- loop.example/g00496/spec.DirOk
def pl271_0 : PC :=
.seq (.seq (.reg [1, 3, 4, 5, 44] [] [
                   ⟨some 42, .mv (.t 5), none⟩,
                   ⟨some 43, .mv (.t 4), none⟩,
                   ⟨some 44, .bin .lss (.t 42) (.t 43), none⟩] none)
                 (.cond (.t 44) (.skip)
                  (.exit 2)))
                (.seq (.blk 3 (.seq (.reg [1, 3, 4, 5, 59] [] [
                     ⟨some 47, .fad (.t 1) 1, none⟩,
                     ⟨some 48, .ld false 1 (.t 47), none⟩,
                     ⟨some 49, .mv (.t 5), none⟩,
                     ⟨some 50, .iad 5 (.t 48) (.t 49), none⟩,
                     ⟨some 51, .fad (.t 50) 0, none⟩,
                     ⟨some 52, .ld false 1 (.t 51), none⟩,
                     ⟨some 53, .fad (.t 1) 1, none⟩,
                     ⟨some 54, .ld false 1 (.t 53), none⟩,
                     ⟨some 55, .mv (.t 4), none⟩,
                     ⟨some 56, .iad 5 (.t 54) (.t 55), none⟩,
                     ⟨some 57, .fad (.t 56) 0, none⟩,
                     ⟨some 58, .ld false 1 (.t 57), none⟩,
                     ⟨some 59, .bin .eql (.t 52) (.t 58), none⟩] (some []))
                   (.cond (.t 59) (.seq (.reg [2] [] [
                       ⟨some 2, .mv (.c (.v false (.bool false))), none⟩] none)
                     (.ret))
                    (.skip))))
                 (.reg [1, 3, 4, 5] [] [
                   ⟨some 45, .mv (.t 5), none⟩,
                   ⟨some 46, .bin .add (.t 45) (.c (.v false (.int .i64 1))), none⟩,
                   ⟨some 5, .mv (.t 46), none⟩] none))

def pl271_1 : PC :=
.seq (.seq (.reg [1, 3, 4, 14] [] [
           ⟨some 10, .mv (.t 4), none⟩,
           ⟨some 11, .fad (.t 1) 1, none⟩,
           ⟨some 12, .ld false 1 (.t 11), none⟩,
           ⟨some 13, .len (.t 12), none⟩,
           ⟨some 14, .bin .lss (.t 10) (.t 13), none⟩] none)
         (.cond (.t 14) (.skip)
          (.exit 0)))
        (.seq (.blk 1 (.seq (.seq (.reg [1, 3, 4, 33] [] [
              ⟨some 17, .fad (.t 1) 1, none⟩,
              ⟨some 18, .ld false 1 (.t 17), none⟩,
              ⟨some 19, .mv (.t 4), none⟩,
              ⟨some 20, .iad 5 (.t 18) (.t 19), none⟩,
              ⟨some 21, .ld true 5 (.t 20), none⟩,
              ⟨some 22, .call 370 [] [(.t 21)], none⟩,
              ⟨some 23, .un .not (.t 22), none⟩,
              ⟨some 24, .mv (.t 23), none⟩,
              ⟨some 25, .fad (.t 1) 1, some (24, false)⟩,
              ⟨some 26, .ld false 1 (.t 25), some (24, false)⟩,
              ⟨some 27, .mv (.t 4), some (24, false)⟩,
              ⟨some 28, .iad 5 (.t 26) (.t 27), some (24, false)⟩,
              ⟨some 29, .fad (.t 28) 3, some (24, false)⟩,
              ⟨some 30, .ld false 1 (.t 29), some (24, false)⟩,
              ⟨some 31, .mv (.t 3), some (24, false)⟩,
              ⟨some 32, .bin .neq (.t 30) (.t 31), some (24, false)⟩,
              ⟨some 33, .pick (.t 24) (.c (.v false (.bool true))) (.t 32), none⟩] none)
            (.cond (.t 33) (.seq (.reg [2] [] [
                ⟨some 2, .mv (.c (.v false (.bool false))), none⟩] none)
              (.ret))
             (.skip)))
           (.seq (.reg [1, 3, 4] [] [
              ⟨some 34, .mv (.t 3), none⟩,
              ⟨some 35, .fad (.t 1) 1, none⟩,
              ⟨some 36, .ld false 1 (.t 35), none⟩,
              ⟨some 37, .mv (.t 4), none⟩,
              ⟨some 38, .iad 5 (.t 36) (.t 37), none⟩,
              ⟨some 39, .fad (.t 38) 4, none⟩,
              ⟨some 40, .ld false 1 (.t 39), none⟩,
              ⟨some 41, .bin .add (.t 34) (.t 40), none⟩,
              ⟨some 3, .mv (.t 41), none⟩] none)
            (.seq (.reg [1, 3, 4, 5] [] [
               ⟨some 5, .mv (.c (.v false (.int .i64 0))), none⟩] none)
             (.blk 2 (.loop pl271_0))))))
         (.reg [1, 3, 4] [] [
           ⟨some 15, .mv (.t 4), none⟩,
           ⟨some 16, .bin .add (.t 15) (.c (.v false (.int .i64 1))), none⟩,
           ⟨some 4, .mv (.t 16), none⟩] none))

def pb271 : PC :=
.seq (.reg [1] [] [
   ⟨some 1, .box 2 (.t 0), none⟩,
   ⟨some 2, .mv (.c (.v false (.bool false))), none⟩] none)
 (.seq (.reg [1, 3] [] [
    ⟨some 3, .mv (.c (.v false (.int .i64 0))), none⟩] none)
  (.seq (.seq (.reg [1, 3, 9] [] [
      ⟨some 6, .fad (.t 1) 1, none⟩,
      ⟨some 7, .ld false 1 (.t 6), none⟩,
      ⟨some 8, .len (.t 7), none⟩,
      ⟨some 9, .bin .gtr (.t 8) (.c (.v false (.int .i64 8))), none⟩] none)
    (.cond (.t 9) (.seq (.reg [2] [] [
        ⟨some 2, .mv (.c (.v false (.bool false))), none⟩] none)
      (.ret))
     (.skip)))
   (.seq (.seq (.reg [1, 3, 4] [] [
       ⟨some 4, .mv (.c (.v false (.int .i64 0))), none⟩] none)
     (.blk 0 (.loop pl271_1)))
    (.seq (.reg [2] [] [
       ⟨some 60, .fad (.t 1) 0, none⟩,
       ⟨some 61, .ld false 1 (.t 60), none⟩,
       ⟨some 62, .bin .geq (.t 61) (.c (.v false (.int .i64 0))), none⟩,
       ⟨some 2, .mv (.t 62), none⟩] none)
     (.ret)))))

def pf271 : PF := ⟨[.s 2], [], pb271⟩

-- loop.example/g00496/spec.DrawSwapRefs
def pl291_0 : PC :=
.seq (.seq (.reg [2, 5, 6, 7, 8, 9, 10, 11, 38] [] [
              ⟨some 27, .mv (.t 11), none⟩,
              ⟨some 28, .mv (.t 8), none⟩,
              ⟨some 29, .mv (.t 9), none⟩,
              ⟨some 30, .bin .add (.t 28) (.t 29), none⟩,
              ⟨some 31, .bin .lss (.t 27) (.t 30), none⟩,
              ⟨some 32, .mv (.t 31), none⟩,
              ⟨some 33, .mv (.t 11), some (32, true)⟩,
              ⟨some 34, .fad (.t 7) 1, some (32, true)⟩,
              ⟨some 35, .ld false 1 (.t 34), some (32, true)⟩,
              ⟨some 36, .len (.t 35), some (32, true)⟩,
              ⟨some 37, .bin .lss (.t 33) (.t 36), some (32, true)⟩,
              ⟨some 38, .pick (.t 32) (.t 37) (.c (.v false (.bool false))), none⟩] none)
            (.cond (.t 38) (.skip)
             (.exit 0)))
           (.seq (.blk 1 (.seq (.seq (.reg [2, 5, 6, 7, 8, 9, 10, 11, 43] [] [
                 ⟨some 41, .mv (.t 11), none⟩,
                 ⟨some 42, .mv (.t 8), none⟩,
                 ⟨some 43, .bin .eql (.t 41) (.t 42), none⟩] none)
               (.cond (.t 43) (.seq (.reg [2, 5, 6, 7, 8, 9, 10, 11] [] [
                   ⟨some 44, .fad (.t 7) 1, none⟩,
                   ⟨some 45, .ld false 1 (.t 44), none⟩,
                   ⟨some 46, .mv (.t 11), none⟩,
                   ⟨some 47, .iad 5 (.t 45) (.t 46), none⟩,
                   ⟨some 48, .fad (.t 47) 3, none⟩,
                   ⟨some 49, .ld false 1 (.t 48), none⟩,
                   ⟨some 50, .fad (.t 10) 3, none⟩,
                   ⟨none, .st 1 (.t 50) (.t 49), none⟩] none)
                 (.reg [2, 5, 6, 7, 8, 9, 10, 11] [] [
                   ⟨some 51, .fad (.t 10) 4, none⟩,
                   ⟨none, .st 1 (.t 51) (.c (.v false (.int .i64 0))), none⟩] none))
                (.skip)))
              (.reg [2, 5, 6, 7, 8, 9, 10, 11] [] [
                ⟨some 52, .fad (.t 10) 4, none⟩,
                ⟨some 53, .ld false 1 (.t 52), none⟩,
                ⟨some 54, .fad (.t 7) 1, none⟩,
                ⟨some 55, .ld false 1 (.t 54), none⟩,
                ⟨some 56, .mv (.t 11), none⟩,
                ⟨some 57, .iad 5 (.t 55) (.t 56), none⟩,
                ⟨some 58, .fad (.t 57) 4, none⟩,
                ⟨some 59, .ld false 1 (.t 58), none⟩,
                ⟨some 60, .bin .add (.t 53) (.t 59), none⟩,
                ⟨some 61, .fad (.t 10) 4, none⟩,
                ⟨none, .st 1 (.t 61) (.t 60), none⟩] (some []))))
            (.reg [2, 5, 6, 7, 8, 9, 10, 11] [] [
              ⟨some 39, .mv (.t 11), none⟩,
              ⟨some 40, .bin .add (.t 39) (.c (.v false (.int .i64 1))), none⟩,
              ⟨some 11, .mv (.t 40), none⟩] none))

def pb291 : PC :=
.seq (.reg [0, 2, 5] [] [
   ⟨some 2, .alloc [(.v false (.int .i64 0)), (.nl 5)], none⟩,
   ⟨some 3, .mv (.c (.v false (.int .i64 0))), none⟩,
   ⟨some 4, .mv (.c (.v false (.int .i64 0))), none⟩,
   ⟨some 5, .alloc [(.v false (.int .i64 0)), (.v false (.int .i64 0)), (.v false (.int .i64 0)), (.v false (.int .i64 0)), (.v false (.int .i64 0))], none⟩] none)
 (.seq (.reg [2, 5, 6] [(13, 6)] [
    ⟨some 12, .mv (.t 0), none⟩,
    ⟨some 13, .call 379 [] [(.t 12)], none⟩,
    ⟨some 6, .mv (.t 13), none⟩] none)
  (.seq (.reg [2, 5, 6, 7] [] [
     ⟨some 14, .mv (.t 6), none⟩,
     ⟨some 15, .call 367 [0] [(.t 14)], none⟩,
     ⟨some 7, .alloc [(.v false (.int .i64 0)), (.nl 5)], none⟩,
     ⟨none, .st 2 (.t 7) (.t 15), none⟩] none)
   (.seq (.reg [2, 5, 6, 7, 8] [(21, 8)] [
      ⟨some 16, .mv (.t 6), none⟩,
      ⟨some 17, .fad (.t 7) 1, none⟩,
      ⟨some 18, .ld false 1 (.t 17), none⟩,
      ⟨some 19, .len (.t 18), none⟩,
      ⟨some 20, .bin .add (.t 19) (.c (.v false (.int .i64 1))), none⟩,
      ⟨some 21, .call 375 [0] [(.t 16), (.t 20)], none⟩,
      ⟨some 8, .mv (.t 21), none⟩] none)
    (.seq (.reg [2, 5, 6, 7, 8, 9] [] [
       ⟨some 22, .mv (.t 6), none⟩,
       ⟨some 23, .call 375 [0] [(.t 22), (.c (.v false (.int .i64 2)))], none⟩,
       ⟨some 24, .bin .add (.c (.v false (.int .i64 1))) (.t 23), none⟩,
       ⟨some 9, .mv (.t 24), none⟩] none)
     (.seq (.reg [2, 5, 6, 7, 8, 9, 10] [] [
        ⟨some 25, .build [(.v false (.int .i64 0)), (.v false (.int .i64 0)), (.v false (.int .i64 0)), (.v false (.int .i64 0)), (.v false (.int .i64 0))] [(0, 1, (.c (.v false (.int .i64 9)))), (2, 1, (.c (.v false (.int .i64 2)))), (4, 1, (.c (.v false (.int .i64 1))))], none⟩,
        ⟨some 10, .alloc [(.v false (.int .i64 0)), (.v false (.int .i64 0)), (.v false (.int .i64 0)), (.v false (.int .i64 0)), (.v false (.int .i64 0))], none⟩,
        ⟨none, .st 5 (.t 10) (.t 25), none⟩] none)
      (.seq (.seq (.reg [2, 5, 6, 7, 8, 9, 10, 11] [] [
          ⟨some 26, .mv (.t 8), none⟩,
          ⟨some 11, .mv (.t 26), none⟩] none)
        (.blk 0 (.loop pl291_0)))
       (.seq (.seq (.reg [2, 5, 6, 7, 8, 9, 10, 63] [] [
           ⟨some 62, .mv (.t 6), none⟩,
           ⟨some 63, .call 382 [0] [(.t 62), (.c (.v false (.int .i64 6)))], none⟩] none)
         (.cond (.t 63) (.reg [2, 5, 6, 7, 8, 9, 10] [] [
            ⟨some 64, .fad (.t 10) 4, none⟩,
            ⟨some 65, .ld false 1 (.t 64), none⟩,
            ⟨some 66, .bin .add (.t 65) (.c (.v false (.int .i64 1))), none⟩,
            ⟨some 67, .fad (.t 10) 4, none⟩,
            ⟨none, .st 1 (.t 67) (.t 66), none⟩] none)
          (.skip)))
        (.seq (.seq (.reg [2, 5, 7, 8, 9, 10, 69] [] [
            ⟨some 68, .mv (.t 6), none⟩,
            ⟨some 69, .call 382 [0] [(.t 68), (.c (.v false (.int .i64 12)))], none⟩] none)
          (.cond (.t 69) (.reg [2, 5, 7, 8, 9, 10] [] [
             ⟨some 8, .mv (.c (.v false (.int .i64 (-1)))), none⟩] none)
           (.skip)))
         (.seq (.reg [2, 3, 4, 5, 8] [] [
            ⟨some 70, .ld true 2 (.t 7), none⟩,
            ⟨some 71, .mv (.t 8), none⟩,
            ⟨some 72, .mv (.t 9), none⟩,
            ⟨some 73, .ld true 5 (.t 10), none⟩,
            ⟨none, .st 2 (.t 2) (.t 70), none⟩,
            ⟨some 3, .mv (.t 71), none⟩,
            ⟨some 4, .mv (.t 72), none⟩,
            ⟨none, .st 5 (.t 5) (.t 73), none⟩] (some [(3, 4)]))
          (.ret))))))))))

def pf291 : PF := ⟨[.b 2 2 true, .s 3, .s 4, .b 5 5 true], [], pb291⟩

-- loop.example/g00496/spec.EndOf
def pb296 : PC :=
.seq (.reg [1] [] [
   ⟨some 1, .box 2 (.t 0), none⟩,
   ⟨some 2, .mv (.c (.v false (.int .i64 0))), none⟩] none)
 (.seq (.seq (.reg [1, 7] [] [
     ⟨some 4, .fad (.t 1) 1, none⟩,
     ⟨some 5, .ld false 1 (.t 4), none⟩,
     ⟨some 6, .len (.t 5), none⟩,
     ⟨some 7, .bin .eql (.t 6) (.c (.v false (.int .i64 0))), none⟩] none)
   (.cond (.t 7) (.seq (.reg [2] [] [
       ⟨some 2, .mv (.c (.v false (.int .i64 0))), none⟩] none)
     (.ret))
    (.skip)))
  (.seq (.reg [3] [] [
     ⟨some 8, .fad (.t 1) 1, none⟩,
     ⟨some 9, .ld false 1 (.t 8), none⟩,
     ⟨some 10, .fad (.t 1) 1, none⟩,
     ⟨some 11, .ld false 1 (.t 10), none⟩,
     ⟨some 12, .len (.t 11), none⟩,
     ⟨some 13, .bin .sub (.t 12) (.c (.v false (.int .i64 1))), none⟩,
     ⟨some 14, .iad 5 (.t 9) (.t 13), none⟩,
     ⟨some 15, .ld true 5 (.t 14), none⟩,
     ⟨some 3, .alloc [(.v false (.int .i64 0)), (.v false (.int .i64 0)), (.v false (.int .i64 0)), (.v false (.int .i64 0)), (.v false (.int .i64 0))], none⟩,
     ⟨none, .st 5 (.t 3) (.t 15), none⟩] none)
   (.seq (.reg [2] [] [
      ⟨some 16, .fad (.t 3) 3, none⟩,
      ⟨some 17, .ld false 1 (.t 16), none⟩,
      ⟨some 18, .fad (.t 3) 4, none⟩,
      ⟨some 19, .ld false 1 (.t 18), none⟩,
      ⟨some 20, .bin .add (.t 17) (.t 19), none⟩,
      ⟨some 2, .mv (.t 20), none⟩] none)
    (.ret))))

def pf296 : PF := ⟨[.s 2], [], pb296⟩

-- loop.example/g00496/spec.SwapRefs
def pb337 : PC :=
.seq (.reg [1, 2, 4, 7, 8] [] [
   ⟨some 4, .box 2 (.t 0), none⟩,
   ⟨some 7, .box 5 (.t 3), none⟩,
   ⟨some 8, .alloc [(.v false (.int .i64 0)), (.nl 5)], none⟩,
   ⟨some 9, .mv (.c (.v false (.bool false))), none⟩] none)
 (.seq (.seq (.reg [1, 2, 4, 7, 8, 27] [] [
     ⟨some 11, .mv (.t 1), none⟩,
     ⟨some 12, .fad (.t 4) 1, none⟩,
     ⟨some 13, .ld false 1 (.t 12), none⟩,
     ⟨some 14, .len (.t 13), none⟩,
     ⟨some 15, .bin .sub (.t 14) (.c (.v false (.int .i64 1))), none⟩,
     ⟨some 16, .call 377 [] [(.t 11), (.c (.v false (.int .i64 0))), (.t 15)], none⟩,
     ⟨some 17, .un .not (.t 16), none⟩,
     ⟨some 18, .mv (.t 17), none⟩,
     ⟨some 19, .mv (.t 2), some (18, false)⟩,
     ⟨some 20, .fad (.t 4) 1, some (18, false)⟩,
     ⟨some 21, .ld false 1 (.t 20), some (18, false)⟩,
     ⟨some 22, .len (.t 21), some (18, false)⟩,
     ⟨some 23, .mv (.t 1), some (18, false)⟩,
     ⟨some 24, .bin .sub (.t 22) (.t 23), some (18, false)⟩,
     ⟨some 25, .call 377 [] [(.t 19), (.c (.v false (.int .i64 1))), (.t 24)], some (18, false)⟩,
     ⟨some 26, .un .not (.t 25), some (18, false)⟩,
     ⟨some 27, .pick (.t 18) (.c (.v false (.bool true))) (.t 26), none⟩] none)
   (.cond (.t 27) (.seq (.reg [8, 9] [] [
       ⟨some 28, .ld true 2 (.t 4), none⟩,
       ⟨some 29, .call 368 [] [(.t 28)], none⟩,
       ⟨none, .st 2 (.t 8) (.t 29), none⟩,
       ⟨some 9, .mv (.c (.v false (.bool false))), none⟩] none)
     (.ret))
    (.skip)))
  (.seq (.reg [4, 8, 10] [] [
     ⟨some 30, .fad (.t 4) 0, none⟩,
     ⟨some 31, .ld false 1 (.t 30), none⟩,
     ⟨some 32, .bin .add (.t 31) (.c (.v false (.int .i64 1))), none⟩,
     ⟨some 33, .bsl 5 [] 0 [], none⟩,
     ⟨some 34, .fad (.t 4) 1, none⟩,
     ⟨some 35, .ld false 1 (.t 34), none⟩,
     ⟨some 36, .mv (.t 1), none⟩,
     ⟨some 37, .slc 5 (.t 35) none (some (.t 36)), none⟩,
     ⟨some 38, .app 5 40 (.t 33) (.t 37), none⟩,
     ⟨some 39, .ld true 5 (.t 7), none⟩,
     ⟨some 40, .bsl 5 [.int .i64 0, .int .i64 0, .int .i64 0, .int .i64 0, .int .i64 0] 1 [(0, (.t 39))], none⟩,
     ⟨some 41, .app 5 40 (.t 38) (.t 40), none⟩,
     ⟨some 42, .fad (.t 4) 1, none⟩,
     ⟨some 43, .ld false 1 (.t 42), none⟩,
     ⟨some 44, .mv (.t 1), none⟩,
     ⟨some 45, .mv (.t 2), none⟩,
     ⟨some 46, .bin .add (.t 44) (.t 45), none⟩,
     ⟨some 47, .slc 5 (.t 43) (some (.t 46)) none, none⟩,
     ⟨some 48, .app 5 40 (.t 41) (.t 47), none⟩,
     ⟨some 49, .build [(.v false (.int .i64 0)), (.nl 5)] [(0, 1, (.t 32)), (1, 1, (.t 48))], none⟩,
     ⟨some 10, .alloc [(.v false (.int .i64 0)), (.nl 5)], none⟩,
     ⟨none, .st 2 (.t 10) (.t 49), none⟩] (some [(1, 3), (3, 5), (3, 7), (1, 8), (3, 9), (8, 9), (1, 10), (3, 10), (5, 10), (7, 10), (8, 10), (1, 11), (3, 13), (8, 13), (10, 13), (11, 13), (3, 17), (8, 17), (10, 17), (11, 17), (1, 18), (1, 20), (3, 20), (5, 20), (7, 20), (8, 20), (9, 20), (10, 20), (11, 20), (13, 20), (17, 20), (18, 20)]))
   (.seq (.seq (.reg [4, 8, 10, 59] [] [
       ⟨some 50, .ld true 2 (.t 10), none⟩,
       ⟨some 51, .call 271 [] [(.t 50)], none⟩,
       ⟨some 52, .un .not (.t 51), none⟩,
       ⟨some 53, .mv (.t 52), none⟩,
       ⟨some 54, .ld true 2 (.t 10), some (53, false)⟩,
       ⟨some 55, .call 296 [] [(.t 54)], some (53, false)⟩,
       ⟨some 56, .ld true 2 (.t 4), some (53, false)⟩,
       ⟨some 57, .call 296 [] [(.t 56)], some (53, false)⟩,
       ⟨some 58, .bin .neq (.t 55) (.t 57), some (53, false)⟩,
       ⟨some 59, .pick (.t 53) (.c (.v false (.bool true))) (.t 58), none⟩] (some [(5, 6)]))
     (.cond (.t 59) (.seq (.reg [8, 9] [] [
         ⟨some 60, .ld true 2 (.t 4), none⟩,
         ⟨some 61, .call 368 [] [(.t 60)], none⟩,
         ⟨none, .st 2 (.t 8) (.t 61), none⟩,
         ⟨some 9, .mv (.c (.v false (.bool false))), none⟩] none)
       (.ret))
      (.skip)))
    (.seq (.reg [8, 9] [] [
       ⟨some 62, .ld true 2 (.t 10), none⟩,
       ⟨none, .st 2 (.t 8) (.t 62), none⟩,
       ⟨some 9, .mv (.c (.v false (.bool true))), none⟩] none)
     (.ret)))))

def pf337 : PF := ⟨[.b 8 2 true, .s 9], [], pb337⟩

-- loop.example/g00496/spec.l18Any
def pb367 : PC :=
.seq (.reg [0, 2] [] [
   ⟨some 2, .alloc [(.v false (.int .i64 0)), (.nl 5)], none⟩] none)
 (.seq (.reg [0, 2, 3] [] [
    ⟨some 5, .mv (.t 0), none⟩,
    ⟨some 6, .call 369 [0] [(.t 5)], none⟩,
    ⟨some 3, .alloc [(.v false (.int .i64 0)), (.nl 5)], none⟩,
    ⟨none, .st 2 (.t 3) (.t 6), none⟩] none)
  (.seq (.seq (.reg [0, 2, 3, 10] [] [
      ⟨some 7, .fad (.t 3) 1, none⟩,
      ⟨some 8, .ld false 1 (.t 7), none⟩,
      ⟨some 9, .len (.t 8), none⟩,
      ⟨some 10, .bin .eql (.t 9) (.c (.v false (.int .i64 0))), none⟩] none)
    (.cond (.t 10) (.seq (.reg [0, 2] [] [
        ⟨some 11, .ld true 2 (.t 3), none⟩,
        ⟨none, .st 2 (.t 2) (.t 11), none⟩] none)
      (.ret))
     (.skip)))
   (.seq (.reg [0, 2, 3, 4] [(16, 4)] [
      ⟨some 12, .mv (.t 0), none⟩,
      ⟨some 13, .fad (.t 3) 1, none⟩,
      ⟨some 14, .ld false 1 (.t 13), none⟩,
      ⟨some 15, .len (.t 14), none⟩,
      ⟨some 16, .call 375 [0] [(.t 12), (.t 15)], none⟩,
      ⟨some 4, .mv (.t 16), none⟩] none)
    (.seq (.seq (.reg [0, 2, 3, 4, 18] [] [
        ⟨some 17, .mv (.t 0), none⟩,
        ⟨some 18, .call 375 [0] [(.t 17), (.c (.v false (.int .i64 12)))], none⟩] none)
      (.blk 0 (.seq (.reg [0, 2, 3, 4, 18, 19] [] [
          ⟨some 20, .bin .eql (.t 18) (.c (.v false (.int .i64 0))), none⟩,
          ⟨some 19, .mv (.t 20), none⟩] none)
        (.cond (.t 19) (.reg [0, 2, 3] [] [
           ⟨some 21, .fad (.t 3) 0, none⟩,
           ⟨none, .st 1 (.t 21) (.c (.v false (.int .i64 (-1)))), none⟩] none)
         (.seq (.reg [0, 2, 3, 4, 18, 22] [] [
            ⟨some 23, .bin .eql (.t 18) (.c (.v false (.int .i64 1))), none⟩,
            ⟨some 22, .mv (.t 23), none⟩] none)
          (.cond (.t 22) (.reg [0, 2, 3] [] [
             ⟨some 24, .fad (.t 3) 1, none⟩,
             ⟨some 25, .ld false 1 (.t 24), none⟩,
             ⟨some 26, .mv (.t 4), none⟩,
             ⟨some 27, .fad (.t 3) 1, none⟩,
             ⟨some 28, .ld false 1 (.t 27), none⟩,
             ⟨some 29, .mv (.t 4), none⟩,
             ⟨some 30, .iad 5 (.t 28) (.t 29), none⟩,
             ⟨some 31, .fad (.t 30) 3, none⟩,
             ⟨some 32, .ld false 1 (.t 31), none⟩,
             ⟨some 33, .bin .add (.t 32) (.c (.v false (.int .i64 1))), none⟩,
             ⟨some 34, .iad 5 (.t 25) (.t 26), none⟩,
             ⟨some 35, .fad (.t 34) 3, none⟩,
             ⟨none, .st 1 (.t 35) (.t 33), none⟩] (some []))
           (.seq (.reg [0, 2, 3, 4, 18, 36] [] [
              ⟨some 37, .bin .eql (.t 18) (.c (.v false (.int .i64 2))), none⟩,
              ⟨some 36, .mv (.t 37), none⟩] none)
            (.cond (.t 36) (.reg [0, 2, 3] [] [
               ⟨some 38, .fad (.t 3) 1, none⟩,
               ⟨some 39, .ld false 1 (.t 38), none⟩,
               ⟨some 40, .mv (.t 4), none⟩,
               ⟨some 41, .mv (.t 0), none⟩,
               ⟨some 42, .bsl 1 [.int .i64 0, .int .i64 0, .int .i64 0, .int .i64 0, .int .i64 0] 5 [(0, (.c (.v false (.int .i64 0)))), (1, (.c (.v false (.int .i64 (-1))))), (2, (.c (.v false (.int .i64 1)))), (3, (.c (.v false (.int .i64 1000000000)))), (4, (.c (.v false (.int .i64 1000000001))))], none⟩,
               ⟨some 43, .call 378 [0] [(.t 41), (.t 42)], none⟩,
               ⟨some 44, .iad 5 (.t 39) (.t 40), none⟩,
               ⟨some 45, .fad (.t 44) 4, none⟩,
               ⟨none, .st 1 (.t 45) (.t 43), none⟩] (some [(1, 4), (1, 5)]))
             (.seq (.reg [0, 2, 3, 4, 18, 46] [] [
                ⟨some 47, .bin .eql (.t 18) (.c (.v false (.int .i64 3))), none⟩,
                ⟨some 46, .mv (.t 47), none⟩] none)
              (.cond (.t 46) (.reg [0, 2, 3] [] [
                 ⟨some 48, .fad (.t 3) 1, none⟩,
                 ⟨some 49, .ld false 1 (.t 48), none⟩,
                 ⟨some 50, .mv (.t 4), none⟩,
                 ⟨some 51, .mv (.t 0), none⟩,
                 ⟨some 52, .bsl 1 [.int .i64 0, .int .i64 0, .int .i64 0] 3 [(0, (.c (.v false (.int .i64 (-1))))), (1, (.c (.v false (.int .i64 0)))), (2, (.c (.v false (.int .i64 1))))], none⟩,
                 ⟨some 53, .call 378 [0] [(.t 51), (.t 52)], none⟩,
                 ⟨some 54, .iad 5 (.t 49) (.t 50), none⟩,
                 ⟨some 55, .fad (.t 54) 0, none⟩,
                 ⟨none, .st 1 (.t 55) (.t 53), none⟩] (some [(1, 4), (1, 5)]))
               (.seq (.reg [0, 2, 3, 4, 56] [] [
                  ⟨some 57, .bin .eql (.t 18) (.c (.v false (.int .i64 4))), none⟩,
                  ⟨some 56, .mv (.t 57), none⟩] none)
                (.cond (.t 56) (.reg [0, 2, 3] [] [
                   ⟨some 58, .fad (.t 3) 1, none⟩,
                   ⟨some 59, .ld false 1 (.t 58), none⟩,
                   ⟨some 60, .mv (.t 4), none⟩,
                   ⟨some 61, .mv (.t 0), none⟩,
                   ⟨some 62, .call 375 [0] [(.t 61), (.c (.v false (.int .i64 4)))], none⟩,
                   ⟨some 63, .iad 5 (.t 59) (.t 60), none⟩,
                   ⟨some 64, .fad (.t 63) 2, none⟩,
                   ⟨none, .st 1 (.t 64) (.t 62), none⟩] (some [(1, 4)]))
                 (.skip)))))))))))))
     (.seq (.reg [0, 2] [] [
        ⟨some 65, .ld true 2 (.t 3), none⟩,
        ⟨none, .st 2 (.t 2) (.t 65), none⟩] none)
      (.ret))))))

def pf367 : PF := ⟨[.b 2 2 true], [0], pb367⟩

-- loop.example/g00496/spec.l18Copy
def pb368 : PC :=
.seq (.reg [1, 2] [] [
   ⟨some 1, .box 2 (.t 0), none⟩,
   ⟨some 2, .alloc [(.v false (.int .i64 0)), (.nl 5)], none⟩] none)
 (.seq (.reg [2] [] [
    ⟨some 3, .fad (.t 1) 0, none⟩,
    ⟨some 4, .ld false 1 (.t 3), none⟩,
    ⟨some 5, .bsl 5 [] 0 [], none⟩,
    ⟨some 6, .fad (.t 1) 1, none⟩,
    ⟨some 7, .ld false 1 (.t 6), none⟩,
    ⟨some 8, .app 5 40 (.t 5) (.t 7), none⟩,
    ⟨some 9, .build [(.v false (.int .i64 0)), (.nl 5)] [(0, 1, (.t 4)), (1, 1, (.t 8))], none⟩,
    ⟨none, .st 2 (.t 2) (.t 9), none⟩] (some [(1, 2), (2, 4), (1, 5)]))
  (.ret))

def pf368 : PF := ⟨[.b 2 2 true], [], pb368⟩

-- loop.example/g00496/spec.l18Draw
def pl369_0 : PC :=
.seq (.seq (.reg [0, 2, 3, 4, 5, 13] [] [
           ⟨some 12, .mv (.t 5), none⟩,
           ⟨some 13, .bin .gtr (.t 12) (.c (.v false (.int .i64 0))), none⟩] none)
         (.cond (.t 13) (.skip)
          (.exit 0)))
        (.seq (.blk 1 (.seq (.reg [0, 2, 3, 4, 5, 6] [] [
             ⟨some 16, .fad (.t 3) 1, none⟩,
             ⟨some 17, .ld false 1 (.t 16), none⟩,
             ⟨some 18, .len (.t 17), none⟩,
             ⟨some 19, .mv (.t 0), none⟩,
             ⟨some 20, .call 375 [0] [(.t 19), (.c (.v false (.int .i64 3)))], none⟩,
             ⟨some 21, .mv (.t 0), none⟩,
             ⟨some 22, .call 375 [0] [(.t 21), (.c (.v false (.int .i64 2)))], none⟩,
             ⟨some 23, .bin .add (.c (.v false (.int .i64 1))) (.t 22), none⟩,
             ⟨some 24, .mv (.t 4), none⟩,
             ⟨some 25, .mv (.t 0), none⟩,
             ⟨some 26, .call 375 [0] [(.t 25), (.c (.v false (.int .i64 4)))], none⟩,
             ⟨some 27, .bin .add (.c (.v false (.int .i64 1))) (.t 26), none⟩,
             ⟨some 28, .build [(.v false (.int .i64 0)), (.v false (.int .i64 0)), (.v false (.int .i64 0)), (.v false (.int .i64 0)), (.v false (.int .i64 0))] [(0, 1, (.t 18)), (1, 1, (.t 20)), (2, 1, (.t 23)), (3, 1, (.t 24)), (4, 1, (.t 27))], none⟩,
             ⟨some 6, .alloc [(.v false (.int .i64 0)), (.v false (.int .i64 0)), (.v false (.int .i64 0)), (.v false (.int .i64 0)), (.v false (.int .i64 0))], none⟩,
             ⟨none, .st 5 (.t 6) (.t 28), none⟩] (some [(1, 4), (2, 4), (1, 6), (2, 6), (1, 10), (2, 10), (1, 13), (2, 13), (4, 13), (6, 13), (10, 13)]))
           (.seq (.reg [0, 2, 3, 4, 5, 6] [] [
              ⟨some 29, .fad (.t 3) 1, none⟩,
              ⟨some 30, .ld false 1 (.t 29), none⟩,
              ⟨some 31, .ld true 5 (.t 6), none⟩,
              ⟨some 32, .bsl 5 [.int .i64 0, .int .i64 0, .int .i64 0, .int .i64 0, .int .i64 0] 1 [(0, (.t 31))], none⟩,
              ⟨some 33, .app 5 40 (.t 30) (.t 32), none⟩,
              ⟨some 34, .fad (.t 3) 1, none⟩,
              ⟨none, .st 1 (.t 34) (.t 33), none⟩] none)
            (.reg [0, 2, 3, 4, 5] [] [
              ⟨some 35, .mv (.t 4), none⟩,
              ⟨some 36, .fad (.t 6) 4, none⟩,
              ⟨some 37, .ld false 1 (.t 36), none⟩,
              ⟨some 38, .bin .add (.t 35) (.t 37), none⟩,
              ⟨some 4, .mv (.t 38), none⟩] none))))
         (.reg [0, 2, 3, 4, 5] [] [
           ⟨some 14, .mv (.t 5), none⟩,
           ⟨some 15, .bin .sub (.t 14) (.c (.v false (.int .i64 1))), none⟩,
           ⟨some 5, .mv (.t 15), none⟩] none))

def pb369 : PC :=
.seq (.reg [0, 2] [] [
   ⟨some 2, .alloc [(.v false (.int .i64 0)), (.nl 5)], none⟩] none)
 (.seq (.reg [0, 2, 3] [] [
    ⟨some 7, .mv (.t 0), none⟩,
    ⟨some 8, .call 375 [0] [(.t 7), (.c (.v false (.int .i64 4)))], none⟩,
    ⟨some 9, .build [(.v false (.int .i64 0)), (.nl 5)] [(0, 1, (.t 8))], none⟩,
    ⟨some 3, .alloc [(.v false (.int .i64 0)), (.nl 5)], none⟩,
    ⟨none, .st 2 (.t 3) (.t 9), none⟩] none)
  (.seq (.reg [0, 2, 3, 4] [] [
     ⟨some 4, .mv (.c (.v false (.int .i64 0))), none⟩] none)
   (.seq (.seq (.reg [0, 2, 3, 4, 5] [(11, 5)] [
       ⟨some 10, .mv (.t 0), none⟩,
       ⟨some 11, .call 375 [0] [(.t 10), (.c (.v false (.int .i64 5)))], none⟩,
       ⟨some 5, .mv (.t 11), none⟩] none)
     (.blk 0 (.loop pl369_0)))
    (.seq (.reg [0, 2] [] [
       ⟨some 39, .ld true 2 (.t 3), none⟩,
       ⟨none, .st 2 (.t 2) (.t 39), none⟩] none)
     (.ret)))))

def pf369 : PF := ⟨[.b 2 2 true], [0], pb369⟩

-- loop.example/g00496/spec.l18RefOk
def pb370 : PC :=
.seq (.reg [1] [] [
   ⟨some 1, .box 5 (.t 0), none⟩,
   ⟨some 2, .mv (.c (.v false (.bool false))), none⟩] none)
 (.seq (.reg [2] [(14, 2)] [
    ⟨some 3, .fad (.t 1) 0, none⟩,
    ⟨some 4, .ld false 1 (.t 3), none⟩,
    ⟨some 5, .bin .geq (.t 4) (.c (.v false (.int .i64 0))), none⟩,
    ⟨some 6, .mv (.t 5), none⟩,
    ⟨some 7, .fad (.t 1) 1, some (6, true)⟩,
    ⟨some 8, .ld false 1 (.t 7), some (6, true)⟩,
    ⟨some 9, .bin .geq (.t 8) (.c (.v false (.int .i64 0))), some (6, true)⟩,
    ⟨some 10, .pick (.t 6) (.t 9) (.c (.v false (.bool false))), none⟩,
    ⟨some 11, .mv (.t 10), none⟩,
    ⟨some 12, .fad (.t 1) 2, some (11, true)⟩,
    ⟨some 13, .ld false 1 (.t 12), some (11, true)⟩,
    ⟨some 14, .call 377 [] [(.t 13), (.c (.v false (.int .i64 1))), (.c (.v false (.int .i64 2)))], some (11, true)⟩,
    ⟨some 15, .pick (.t 11) (.t 14) (.c (.v false (.bool false))), none⟩,
    ⟨some 16, .mv (.t 15), none⟩,
    ⟨some 17, .fad (.t 1) 4, some (16, true)⟩,
    ⟨some 18, .ld false 1 (.t 17), some (16, true)⟩,
    ⟨some 19, .bin .geq (.t 18) (.c (.v false (.int .i64 1))), some (16, true)⟩,
    ⟨some 20, .pick (.t 16) (.t 19) (.c (.v false (.bool false))), none⟩,
    ⟨some 21, .mv (.t 20), none⟩,
    ⟨some 22, .fad (.t 1) 4, some (21, true)⟩,
    ⟨some 23, .ld false 1 (.t 22), some (21, true)⟩,
    ⟨some 24, .bin .leq (.t 23) (.c (.v false (.int .i64 1000000000))), some (21, true)⟩,
    ⟨some 25, .pick (.t 21) (.t 24) (.c (.v false (.bool false))), none⟩,
    ⟨some 2, .mv (.t 25), none⟩] none)
  (.ret))

def pf370 : PF := ⟨[.s 2], [], pb370⟩

-- loop.example/g00496/spec.l1Below
def pb375 : PC :=
.seq (.reg [0, 1] [] [
   ⟨some 4, .mv (.c (.v false (.int .i64 0))), none⟩] none)
 (.seq (.seq (.reg [0, 1, 9] [] [
     ⟨some 8, .mv (.t 1), none⟩,
     ⟨some 9, .bin .leq (.t 8) (.c (.v false (.int .i64 0))), none⟩] none)
   (.cond (.t 9) (.seq (.reg [0, 4] [] [
       ⟨some 4, .mv (.c (.v false (.int .i64 0))), none⟩] none)
     (.ret))
    (.skip)))
  (.seq (.seq (.reg [0, 1, 11] [] [
      ⟨some 10, .mv (.t 1), none⟩,
      ⟨some 11, .bin .leq (.t 10) (.c (.v false (.int .i64 256))), none⟩] none)
    (.cond (.t 11) (.seq (.reg [0, 4] [] [
        ⟨some 12, .mv (.t 0), none⟩,
        ⟨some 13, .call 376 [0] [(.t 12)], none⟩,
        ⟨some 14, .mv (.t 1), none⟩,
        ⟨some 15, .bin .rem (.t 13) (.t 14), none⟩,
        ⟨some 4, .mv (.t 15), none⟩] none)
      (.ret))
     (.skip)))
   (.seq (.reg [0, 1, 5] [(17, 5)] [
      ⟨some 16, .mv (.t 0), none⟩,
      ⟨some 17, .call 376 [0] [(.t 16)], none⟩,
      ⟨some 5, .mv (.t 17), none⟩] none)
    (.seq (.reg [0, 1, 5, 6] [(19, 6)] [
       ⟨some 18, .mv (.t 0), none⟩,
       ⟨some 19, .call 376 [0] [(.t 18)], none⟩,
       ⟨some 6, .mv (.t 19), none⟩] none)
     (.seq (.reg [0, 1, 5, 6, 7] [(21, 7)] [
        ⟨some 20, .mv (.t 0), none⟩,
        ⟨some 21, .call 376 [0] [(.t 20)], none⟩,
        ⟨some 7, .mv (.t 21), none⟩] none)
      (.seq (.reg [0, 4] [] [
         ⟨some 22, .mv (.t 5), none⟩,
         ⟨some 23, .bin .mul (.t 22) (.c (.v false (.int .i64 65536))), none⟩,
         ⟨some 24, .mv (.t 6), none⟩,
         ⟨some 25, .bin .mul (.t 24) (.c (.v false (.int .i64 256))), none⟩,
         ⟨some 26, .bin .add (.t 23) (.t 25), none⟩,
         ⟨some 27, .mv (.t 7), none⟩,
         ⟨some 28, .bin .add (.t 26) (.t 27), none⟩,
         ⟨some 29, .mv (.t 1), none⟩,
         ⟨some 30, .bin .rem (.t 28) (.t 29), none⟩,
         ⟨some 4, .mv (.t 30), none⟩] none)
       (.ret)))))))

def pf375 : PF := ⟨[.s 4], [0], pb375⟩

-- loop.example/g00496/spec.l1Byte
def pb376 : PC :=
.seq (.reg [0] [] [
   ⟨some 2, .mv (.c (.v false (.int .i64 0))), none⟩] none)
 (.seq (.reg [0] [] [
    ⟨some 4, .mv (.t 0), none⟩,
    ⟨some 5, .mv (.t 0), none⟩,
    ⟨some 6, .nck (.t 5), none⟩,
    ⟨some 7, .fad (.t 6) 2, none⟩,
    ⟨some 8, .ld false 1 (.t 7), none⟩,
    ⟨some 9, .bin .mul (.t 8) (.c (.v false (.int .i64 6364136223846793005))), none⟩,
    ⟨some 10, .bin .add (.t 9) (.c (.v false (.int .i64 1442695040888963407))), none⟩,
    ⟨some 11, .nck (.t 4), none⟩,
    ⟨some 12, .fad (.t 11) 2, none⟩,
    ⟨none, .st 1 (.t 12) (.t 10), none⟩] none)
  (.seq (.reg [0, 3] [] [
     ⟨some 13, .mv (.t 0), none⟩,
     ⟨some 14, .nck (.t 13), none⟩,
     ⟨some 15, .fad (.t 14) 2, none⟩,
     ⟨some 16, .ld false 1 (.t 15), none⟩,
     ⟨some 17, .bin .shr (.t 16) (.c (.v false (.int .u64 33))), none⟩,
     ⟨some 18, .mv (.t 0), none⟩,
     ⟨some 19, .nck (.t 18), none⟩,
     ⟨some 20, .fad (.t 19) 2, none⟩,
     ⟨some 21, .ld false 1 (.t 20), none⟩,
     ⟨some 22, .bin .shr (.t 21) (.c (.v false (.int .u64 47))), none⟩,
     ⟨some 23, .bin .xor (.t 17) (.t 22), none⟩,
     ⟨some 24, .bin .and (.t 23) (.c (.v false (.int .i64 255))), none⟩,
     ⟨some 3, .mv (.t 24), none⟩] (some []))
   (.seq (.seq (.reg [0, 3, 34] [] [
       ⟨some 25, .mv (.t 0), none⟩,
       ⟨some 26, .nck (.t 25), none⟩,
       ⟨some 27, .fad (.t 26) 1, none⟩,
       ⟨some 28, .ld false 1 (.t 27), none⟩,
       ⟨some 29, .mv (.t 0), none⟩,
       ⟨some 30, .nck (.t 29), none⟩,
       ⟨some 31, .fad (.t 30) 0, none⟩,
       ⟨some 32, .ld false 1 (.t 31), none⟩,
       ⟨some 33, .len (.t 32), none⟩,
       ⟨some 34, .bin .lss (.t 28) (.t 33), none⟩] (some []))
     (.cond (.t 34) (.seq (.reg [0, 3] [] [
         ⟨some 35, .mv (.t 3), none⟩,
         ⟨some 36, .mv (.t 0), none⟩,
         ⟨some 37, .nck (.t 36), none⟩,
         ⟨some 38, .fad (.t 37) 0, none⟩,
         ⟨some 39, .ld false 1 (.t 38), none⟩,
         ⟨some 40, .mv (.t 0), none⟩,
         ⟨some 41, .nck (.t 40), none⟩,
         ⟨some 42, .fad (.t 41) 1, none⟩,
         ⟨some 43, .ld false 1 (.t 42), none⟩,
         ⟨some 44, .iad 1 (.t 39) (.t 43), none⟩,
         ⟨some 45, .ld false 1 (.t 44), none⟩,
         ⟨some 46, .cvi .i64 (.t 45), none⟩,
         ⟨some 47, .bin .add (.t 35) (.t 46), none⟩,
         ⟨some 48, .bin .and (.t 47) (.c (.v false (.int .i64 255))), none⟩,
         ⟨some 3, .mv (.t 48), none⟩] (some []))
       (.reg [0, 3] [] [
         ⟨some 49, .mv (.t 0), none⟩,
         ⟨some 50, .mv (.t 0), none⟩,
         ⟨some 51, .nck (.t 50), none⟩,
         ⟨some 52, .fad (.t 51) 1, none⟩,
         ⟨some 53, .ld false 1 (.t 52), none⟩,
         ⟨some 54, .bin .add (.t 53) (.c (.v false (.int .i64 1))), none⟩,
         ⟨some 55, .nck (.t 49), none⟩,
         ⟨some 56, .fad (.t 55) 1, none⟩,
         ⟨none, .st 1 (.t 56) (.t 54), none⟩] none))
      (.skip)))
    (.seq (.reg [0, 2] [] [
       ⟨some 57, .mv (.t 3), none⟩,
       ⟨some 2, .mv (.t 57), none⟩] none)
     (.ret)))))

def pf376 : PF := ⟨[.s 2], [0], pb376⟩

-- loop.example/g00496/spec.l1In
def pb377 : PC :=
.seq (.reg [0, 1, 2] [] [
   ⟨some 6, .mv (.c (.v false (.bool false))), none⟩] none)
 (.seq (.reg [6] [] [
    ⟨some 7, .mv (.t 0), none⟩,
    ⟨some 8, .mv (.t 1), none⟩,
    ⟨some 9, .bin .geq (.t 7) (.t 8), none⟩,
    ⟨some 10, .mv (.t 9), none⟩,
    ⟨some 11, .mv (.t 0), some (10, true)⟩,
    ⟨some 12, .mv (.t 2), some (10, true)⟩,
    ⟨some 13, .bin .leq (.t 11) (.t 12), some (10, true)⟩,
    ⟨some 14, .pick (.t 10) (.t 13) (.c (.v false (.bool false))), none⟩,
    ⟨some 6, .mv (.t 14), none⟩] none)
  (.ret))

def pf377 : PF := ⟨[.s 6], [], pb377⟩

-- loop.example/g00496/spec.l1Int
def pb378 : PC :=
.seq (.reg [0, 1] [] [
   ⟨some 4, .mv (.c (.v false (.int .i64 0))), none⟩] none)
 (.seq (.reg [0, 4] [(9, 4)] [
    ⟨some 5, .mv (.t 1), none⟩,
    ⟨some 6, .mv (.t 0), none⟩,
    ⟨some 7, .mv (.t 1), none⟩,
    ⟨some 8, .len (.t 7), none⟩,
    ⟨some 9, .call 375 [0] [(.t 6), (.t 8)], none⟩,
    ⟨some 10, .iad 1 (.t 5) (.t 9), none⟩,
    ⟨some 11, .ld false 1 (.t 10), none⟩,
    ⟨some 4, .mv (.t 11), none⟩] none)
  (.ret))

def pf378 : PF := ⟨[.s 4], [0], pb378⟩

-- loop.example/g00496/spec.l1New
def pl379_0 : PC :=
.seq (.seq (.reg [0, 3, 4, 15] [] [
          ⟨some 8, .mv (.t 4), none⟩,
          ⟨some 9, .mv (.t 0), none⟩,
          ⟨some 10, .len (.t 9), none⟩,
          ⟨some 11, .bin .lss (.t 8) (.t 10), none⟩,
          ⟨some 12, .mv (.t 11), none⟩,
          ⟨some 13, .mv (.t 4), some (12, true)⟩,
          ⟨some 14, .bin .lss (.t 13) (.c (.v false (.int .i64 4000))), some (12, true)⟩,
          ⟨some 15, .pick (.t 12) (.t 14) (.c (.v false (.bool false))), none⟩] none)
        (.cond (.t 15) (.skip)
         (.exit 0)))
       (.seq (.blk 1 (.reg [0, 3, 4] [] [
           ⟨some 18, .mv (.t 3), none⟩,
           ⟨some 19, .bin .mul (.t 18) (.c (.v false (.int .i64 137))), none⟩,
           ⟨some 20, .mv (.t 0), none⟩,
           ⟨some 21, .mv (.t 4), none⟩,
           ⟨some 22, .iad 1 (.t 20) (.t 21), none⟩,
           ⟨some 23, .ld false 1 (.t 22), none⟩,
           ⟨some 24, .cvi .i64 (.t 23), none⟩,
           ⟨some 25, .bin .add (.t 19) (.t 24), none⟩,
           ⟨some 26, .bin .add (.t 25) (.c (.v false (.int .i64 11))), none⟩,
           ⟨some 27, .bin .and (.t 26) (.c (.v false (.int .i64 1073741823))), none⟩,
           ⟨some 3, .mv (.t 27), none⟩] none))
        (.reg [0, 3, 4] [] [
          ⟨some 16, .mv (.t 4), none⟩,
          ⟨some 17, .bin .add (.t 16) (.c (.v false (.int .i64 1))), none⟩,
          ⟨some 4, .mv (.t 17), none⟩] none))

def pb379 : PC :=
.seq (.reg [0] [] [
   ⟨some 2, .mv (.c (.un)), none⟩] none)
 (.seq (.reg [0, 3] [] [
    ⟨some 5, .mv (.t 0), none⟩,
    ⟨some 6, .len (.t 5), none⟩,
    ⟨some 7, .bin .add (.c (.v false (.int .i64 154242))) (.t 6), none⟩,
    ⟨some 3, .mv (.t 7), none⟩] none)
  (.seq (.seq (.reg [0, 3, 4] [] [
      ⟨some 4, .mv (.c (.v false (.int .i64 0))), none⟩] none)
    (.blk 0 (.loop pl379_0)))
   (.seq (.reg [2] [(31, 2)] [
      ⟨some 28, .mv (.t 0), none⟩,
      ⟨some 29, .mv (.t 3), none⟩,
      ⟨some 30, .build [(.nl 1), (.v false (.int .i64 0)), (.v false (.int .i64 0))] [(0, 1, (.t 28)), (2, 1, (.t 29))], none⟩,
      ⟨some 31, .box 3 (.t 30), none⟩,
      ⟨some 2, .mv (.t 31), none⟩] none)
    (.ret))))

def pf379 : PF := ⟨[.s 2], [], pb379⟩

-- loop.example/g00496/spec.l1Once
def pb382 : PC :=
.seq (.reg [0, 1] [] [
   ⟨some 4, .mv (.c (.v false (.bool false))), none⟩] none)
 (.seq (.reg [0, 4] [] [
    ⟨some 5, .mv (.t 0), none⟩,
    ⟨some 6, .mv (.t 1), none⟩,
    ⟨some 7, .call 375 [0] [(.t 5), (.t 6)], none⟩,
    ⟨some 8, .bin .eql (.t 7) (.c (.v false (.int .i64 0))), none⟩,
    ⟨some 4, .mv (.t 8), none⟩] none)
  (.ret))

def pf382 : PF := ⟨[.s 4], [0], pb382⟩

end Go.Proofs.Ytkgibccknlbiaaa.OM
