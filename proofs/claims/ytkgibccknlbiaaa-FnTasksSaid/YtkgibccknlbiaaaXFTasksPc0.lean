/- The texts of the functions, as the own machine runs them. -/
import Derived.Test.YtkgibccknlbiaaaOMDef
set_option linter.all false
namespace Go.Proofs.Ytkgibccknlbiaaa.OM
set_option maxRecDepth 100000

-- loop.example/g00496/impl.HasBuf
def pl22_0 : PC :=
.seq (.reg [1, 2, 8, 9, 10, 11] [] [
        ⟨some 11, .bin .lss (.t 10) (.t 9), none⟩] none)
      (.seq (.cond (.t 11) (.skip)
        (.exit 0))
       (.seq (.blk 1 (.seq (.reg [1, 2, 6, 8, 9, 10] [] [
            ⟨some 12, .iad 5 (.t 8) (.t 10), none⟩,
            ⟨some 13, .ld true 5 (.t 12), none⟩,
            ⟨some 6, .alloc [(.v false (.int .i64 0)), (.v false (.int .i64 0)), (.v false (.int .i64 0)), (.v false (.int .i64 0)), (.v false (.int .i64 0))], none⟩,
            ⟨none, .st 5 (.t 6) (.t 13), none⟩] none)
          (.seq (.reg [1, 2, 8, 9, 10, 17] [] [
             ⟨some 14, .fad (.t 6) 0, none⟩,
             ⟨some 15, .ld false 1 (.t 14), none⟩,
             ⟨some 16, .mv (.t 1), none⟩,
             ⟨some 17, .bin .eql (.t 15) (.t 16), none⟩] none)
           (.cond (.t 17) (.seq (.reg [4] [] [
               ⟨some 4, .mv (.c (.v false (.bool true))), none⟩] none)
             (.ret))
            (.skip)))))
        (.reg [1, 2, 8, 9, 10] [] [
          ⟨some 18, .bin .add (.t 10) (.c (.v false (.int .i64 1))), none⟩,
          ⟨some 10, .mv (.t 18), none⟩] none)))

def pb22 : PC :=
.seq (.reg [1, 2] [] [
   ⟨some 2, .box 2 (.t 0), none⟩,
   ⟨some 4, .mv (.c (.v false (.bool false))), none⟩] none)
 (.seq (.seq (.reg [1, 2, 8, 9, 10] [] [
     ⟨some 7, .fad (.t 2) 1, none⟩,
     ⟨some 8, .ld false 1 (.t 7), none⟩,
     ⟨some 9, .len (.t 8), none⟩,
     ⟨some 10, .mv (.c (.v false (.int .i64 0))), none⟩] none)
   (.blk 0 (.loop pl22_0)))
  (.seq (.reg [4] [] [
     ⟨some 4, .mv (.c (.v false (.bool false))), none⟩] none)
   (.ret)))

def pf22 : PF := ⟨[.s 4], [], pb22⟩

-- loop.example/g00496/impl.HasTs
def pb24 : PC :=
.seq (.reg [1] [] [
   ⟨some 1, .box 25 (.t 0), none⟩,
   ⟨some 2, .mv (.c (.v false (.bool false))), none⟩] none)
 (.seq (.reg [2] [] [
    ⟨some 3, .fad (.t 1) 0, none⟩,
    ⟨some 4, .ld false 1 (.t 3), none⟩,
    ⟨some 5, .bin .eql (.t 4) (.c (.v false (.int .i64 3))), none⟩,
    ⟨some 6, .mv (.t 5), none⟩,
    ⟨some 7, .fad (.t 1) 1, some (6, true)⟩,
    ⟨some 8, .ld false 1 (.t 7), some (6, true)⟩,
    ⟨some 9, .bin .geq (.t 8) (.c (.v false (.int .i64 2))), some (6, true)⟩,
    ⟨some 10, .pick (.t 6) (.t 9) (.c (.v false (.bool false))), none⟩,
    ⟨some 2, .mv (.t 10), none⟩] none)
  (.ret))

def pf24 : PF := ⟨[.s 2], [], pb24⟩

-- loop.example/g00496/impl.Holding
def pb25 : PC :=
.seq (.reg [1, 2] [] [
   ⟨some 2, .box 25 (.t 0), none⟩,
   ⟨some 4, .mv (.c (.v false (.bool false))), none⟩] none)
 (.seq (.reg [4] [(9, 4)] [
    ⟨some 5, .fad (.t 2) 17, none⟩,
    ⟨some 6, .ld false 1 (.t 5), none⟩,
    ⟨some 7, .build [(.v false (.int .i64 0)), (.nl 5)] [(1, 1, (.t 6))], none⟩,
    ⟨some 8, .mv (.t 1), none⟩,
    ⟨some 9, .call 22 [] [(.t 7), (.t 8)], none⟩,
    ⟨some 4, .mv (.t 9), none⟩] none)
  (.ret))

def pf25 : PF := ⟨[.s 4], [], pb25⟩

-- loop.example/g00496/impl.Idle
def pb27 : PC :=
.seq (.reg [1] [] [
   ⟨some 1, .box 25 (.t 0), none⟩,
   ⟨some 2, .mv (.c (.v false (.bool false))), none⟩] none)
 (.seq (.reg [2] [] [
    ⟨some 3, .fad (.t 1) 0, none⟩,
    ⟨some 4, .ld false 1 (.t 3), none⟩,
    ⟨some 5, .bin .eql (.t 4) (.c (.v false (.int .i64 0))), none⟩,
    ⟨some 2, .mv (.t 5), none⟩] none)
  (.ret))

def pf27 : PF := ⟨[.s 2], [], pb27⟩

-- loop.example/g00496/impl.Looks
def pb29 : PC :=
.seq (.reg [1] [] [
   ⟨some 1, .box 25 (.t 0), none⟩,
   ⟨some 2, .mv (.c (.v false (.bool false))), none⟩] none)
 (.seq (.reg [2] [] [
    ⟨some 3, .fad (.t 1) 0, none⟩,
    ⟨some 4, .ld false 1 (.t 3), none⟩,
    ⟨some 5, .bin .neq (.t 4) (.c (.v false (.int .i64 0))), none⟩,
    ⟨some 6, .mv (.t 5), none⟩,
    ⟨some 7, .fad (.t 1) 1, some (6, true)⟩,
    ⟨some 8, .ld false 1 (.t 7), some (6, true)⟩,
    ⟨some 9, .bin .geq (.t 8) (.c (.v false (.int .i64 1))), some (6, true)⟩,
    ⟨some 10, .pick (.t 6) (.t 9) (.c (.v false (.bool false))), none⟩,
    ⟨some 2, .mv (.t 10), none⟩] none)
  (.ret))

def pf29 : PF := ⟨[.s 2], [], pb29⟩

-- loop.example/g00496/impl.OpName
def pb34 : PC :=
.seq (.reg [0] [] [
   ⟨some 2, .mv (.c (.v false (.str ⟨#[]⟩))), none⟩] none)
 (.seq (.seq (.reg [0, 5] [] [
     ⟨some 3, .mv (.t 0), none⟩,
     ⟨some 4, .call 87 [] [(.t 3), (.c (.v false (.int .i64 0))), (.c (.v false (.int .i64 4)))], none⟩,
     ⟨some 5, .un .not (.t 4), none⟩] none)
   (.cond (.t 5) (.seq (.reg [2] [] [
       ⟨some 2, .mv (.c (.v false (.str ⟨#[]⟩))), none⟩] none)
     (.ret))
    (.skip)))
  (.seq (.reg [2] [(6, 2)] [
     ⟨some 6, .bsl 1 [.str ⟨#[]⟩, .str ⟨#[]⟩, .str ⟨#[]⟩, .str ⟨#[]⟩, .str ⟨#[]⟩] 5 [(0, (.c (.v false (.str ⟨#[110, 111, 110, 101]⟩)))), (1, (.c (.v false (.str ⟨#[112, 117, 116]⟩)))), (2, (.c (.v false (.str ⟨#[100, 114, 111, 112]⟩)))), (3, (.c (.v false (.str ⟨#[115, 99, 97, 110]⟩)))), (4, (.c (.v false (.str ⟨#[112, 97, 99, 107]⟩))))], none⟩,
     ⟨some 7, .mv (.t 0), none⟩,
     ⟨some 8, .iad 1 (.t 6) (.t 7), none⟩,
     ⟨some 9, .ld false 1 (.t 8), none⟩,
     ⟨some 2, .mv (.t 9), none⟩] none)
   (.ret)))

def pf34 : PF := ⟨[.s 2], [], pb34⟩

-- loop.example/g00496/impl.TaskOk
def pl58_0 : PC :=
.seq (.reg [2, 59, 60, 61, 62] [] [
          ⟨some 62, .bin .lss (.t 61) (.t 60), none⟩] none)
        (.seq (.cond (.t 62) (.skip)
          (.exit 2))
         (.seq (.blk 3 (.seq (.reg [2, 8, 59, 60, 61] [] [
              ⟨some 63, .iad 5 (.t 59) (.t 61), none⟩,
              ⟨some 64, .ld true 5 (.t 63), none⟩,
              ⟨some 8, .alloc [(.v false (.int .i64 0)), (.v false (.int .i64 0)), (.v false (.int .i64 0)), (.v false (.int .i64 0)), (.v false (.int .i64 0))], none⟩,
              ⟨none, .st 5 (.t 8) (.t 64), none⟩] none)
            (.seq (.reg [2, 59, 60, 61, 72] [] [
               ⟨some 65, .ld true 5 (.t 8), none⟩,
               ⟨some 66, .call 82 [] [(.t 65)], none⟩,
               ⟨some 67, .un .not (.t 66), none⟩,
               ⟨some 68, .mv (.t 67), none⟩,
               ⟨some 69, .fad (.t 8) 3, some (68, false)⟩,
               ⟨some 70, .ld false 1 (.t 69), some (68, false)⟩,
               ⟨some 71, .bin .lss (.t 70) (.c (.v false (.int .i64 0))), some (68, false)⟩,
               ⟨some 72, .pick (.t 68) (.c (.v false (.bool true))) (.t 71), none⟩] none)
             (.cond (.t 72) (.seq (.reg [4] [] [
                 ⟨some 4, .mv (.c (.v false (.bool false))), none⟩] none)
               (.ret))
              (.skip)))))
          (.reg [2, 59, 60, 61] [] [
            ⟨some 73, .bin .add (.t 61) (.c (.v false (.int .i64 1))), none⟩,
            ⟨some 61, .mv (.t 73), none⟩] none)))

def pl58_1 : PC :=
.seq (.reg [2, 49, 50, 51, 52] [] [
         ⟨some 52, .bin .lss (.t 51) (.t 50), none⟩] none)
       (.seq (.cond (.t 52) (.skip)
         (.exit 0))
        (.seq (.blk 1 (.seq (.reg [2, 6, 49, 50, 51] [] [
             ⟨some 53, .iad 1 (.t 49) (.t 51), none⟩,
             ⟨some 54, .ld false 1 (.t 53), none⟩,
             ⟨some 6, .mv (.t 54), none⟩] none)
           (.seq (.reg [2, 49, 50, 51, 56] [] [
              ⟨some 55, .mv (.t 6), none⟩,
              ⟨some 56, .bin .lss (.t 55) (.c (.v false (.int .i64 0))), none⟩] none)
            (.cond (.t 56) (.seq (.reg [4] [] [
                ⟨some 4, .mv (.c (.v false (.bool false))), none⟩] none)
              (.ret))
             (.skip)))))
         (.reg [2, 49, 50, 51] [] [
           ⟨some 57, .bin .add (.t 51) (.c (.v false (.int .i64 1))), none⟩,
           ⟨some 51, .mv (.t 57), none⟩] none)))

def pb58 : PC :=
.seq (.reg [1, 2] [] [
   ⟨some 2, .box 25 (.t 0), none⟩,
   ⟨some 4, .mv (.c (.v false (.bool false))), none⟩] none)
 (.seq (.seq (.reg [2, 30] [] [
     ⟨some 9, .mv (.t 1), none⟩,
     ⟨some 10, .call 87 [] [(.t 9), (.c (.v false (.int .i64 0))), (.c (.v false (.int .i64 4)))], none⟩,
     ⟨some 11, .un .not (.t 10), none⟩,
     ⟨some 12, .mv (.t 11), none⟩,
     ⟨some 13, .mv (.t 1), some (12, false)⟩,
     ⟨some 14, .fad (.t 2) 0, some (12, false)⟩,
     ⟨some 15, .ld false 1 (.t 14), some (12, false)⟩,
     ⟨some 16, .call 81 [] [(.t 13), (.t 15)], some (12, false)⟩,
     ⟨some 17, .un .not (.t 16), some (12, false)⟩,
     ⟨some 18, .pick (.t 12) (.c (.v false (.bool true))) (.t 17), none⟩,
     ⟨some 19, .mv (.t 18), none⟩,
     ⟨some 20, .fad (.t 2) 1, some (19, false)⟩,
     ⟨some 21, .ld false 1 (.t 20), some (19, false)⟩,
     ⟨some 22, .call 87 [] [(.t 21), (.c (.v false (.int .i64 0))), (.c (.v false (.int .i64 9)))], some (19, false)⟩,
     ⟨some 23, .un .not (.t 22), some (19, false)⟩,
     ⟨some 24, .pick (.t 19) (.c (.v false (.bool true))) (.t 23), none⟩,
     ⟨some 25, .mv (.t 24), none⟩,
     ⟨some 26, .fad (.t 2) 17, some (25, false)⟩,
     ⟨some 27, .ld false 1 (.t 26), some (25, false)⟩,
     ⟨some 28, .len (.t 27), some (25, false)⟩,
     ⟨some 29, .bin .gtr (.t 28) (.c (.v false (.int .i64 8))), some (25, false)⟩,
     ⟨some 30, .pick (.t 25) (.c (.v false (.bool true))) (.t 29), none⟩] none)
   (.cond (.t 30) (.seq (.reg [4] [] [
       ⟨some 4, .mv (.c (.v false (.bool false))), none⟩] none)
     (.ret))
    (.skip)))
  (.seq (.seq (.reg [2, 49, 50, 51] [] [
      ⟨some 31, .fad (.t 2) 2, none⟩,
      ⟨some 32, .ld false 1 (.t 31), none⟩,
      ⟨some 33, .fad (.t 2) 4, none⟩,
      ⟨some 34, .ld false 1 (.t 33), none⟩,
      ⟨some 35, .fad (.t 2) 15, none⟩,
      ⟨some 36, .ld false 1 (.t 35), none⟩,
      ⟨some 37, .fad (.t 2) 16, none⟩,
      ⟨some 38, .ld false 1 (.t 37), none⟩,
      ⟨some 39, .fad (.t 2) 18, none⟩,
      ⟨some 40, .ld false 1 (.t 39), none⟩,
      ⟨some 41, .fad (.t 2) 19, none⟩,
      ⟨some 42, .ld false 1 (.t 41), none⟩,
      ⟨some 43, .fad (.t 2) 20, none⟩,
      ⟨some 44, .ld false 1 (.t 43), none⟩,
      ⟨some 45, .fad (.t 2) 21, none⟩,
      ⟨some 46, .ld false 1 (.t 45), none⟩,
      ⟨some 47, .fad (.t 2) 22, none⟩,
      ⟨some 48, .ld false 1 (.t 47), none⟩,
      ⟨some 49, .bsl 1 [.int .i64 0, .int .i64 0, .int .i64 0, .int .i64 0, .int .i64 0, .int .i64 0, .int .i64 0, .int .i64 0, .int .i64 0] 9 [(0, (.t 32)), (1, (.t 34)), (2, (.t 36)), (3, (.t 38)), (4, (.t 40)), (5, (.t 42)), (6, (.t 44)), (7, (.t 46)), (8, (.t 48))], none⟩,
      ⟨some 50, .len (.t 49), none⟩,
      ⟨some 51, .mv (.c (.v false (.int .i64 0))), none⟩] none)
    (.blk 0 (.loop pl58_1)))
   (.seq (.seq (.reg [2, 59, 60, 61] [] [
       ⟨some 58, .fad (.t 2) 17, none⟩,
       ⟨some 59, .ld false 1 (.t 58), none⟩,
       ⟨some 60, .len (.t 59), none⟩,
       ⟨some 61, .mv (.c (.v false (.int .i64 0))), none⟩] none)
     (.blk 2 (.loop pl58_0)))
    (.seq (.seq (.reg [2, 86] [] [
        ⟨some 74, .fad (.t 2) 4, none⟩,
        ⟨some 75, .ld false 1 (.t 74), none⟩,
        ⟨some 76, .bin .neq (.t 75) (.c (.v false (.int .i64 0))), none⟩,
        ⟨some 77, .mv (.t 76), none⟩,
        ⟨some 78, .fad (.t 2) 0, some (77, true)⟩,
        ⟨some 79, .ld false 1 (.t 78), some (77, true)⟩,
        ⟨some 80, .bin .neq (.t 79) (.c (.v false (.int .i64 1))), some (77, true)⟩,
        ⟨some 81, .pick (.t 77) (.t 80) (.c (.v false (.bool false))), none⟩,
        ⟨some 82, .mv (.t 81), none⟩,
        ⟨some 83, .fad (.t 2) 0, some (82, true)⟩,
        ⟨some 84, .ld false 1 (.t 83), some (82, true)⟩,
        ⟨some 85, .bin .neq (.t 84) (.c (.v false (.int .i64 2))), some (82, true)⟩,
        ⟨some 86, .pick (.t 82) (.t 85) (.c (.v false (.bool false))), none⟩] none)
      (.cond (.t 86) (.seq (.reg [4] [] [
          ⟨some 4, .mv (.c (.v false (.bool false))), none⟩] none)
        (.ret))
       (.skip)))
     (.seq (.reg [4] [(92, 4)] [
        ⟨some 87, .fad (.t 2) 0, none⟩,
        ⟨some 88, .ld false 1 (.t 87), none⟩,
        ⟨some 89, .bin .neq (.t 88) (.c (.v false (.int .i64 0))), none⟩,
        ⟨some 90, .mv (.t 89), none⟩,
        ⟨some 91, .ld true 25 (.t 2), some (90, false)⟩,
        ⟨some 92, .call 67 [] [(.t 91)], some (90, false)⟩,
        ⟨some 93, .pick (.t 90) (.c (.v false (.bool true))) (.t 92), none⟩,
        ⟨some 4, .mv (.t 93), none⟩] none)
      (.ret))))))

def pf58 : PF := ⟨[.s 4], [], pb58⟩

-- loop.example/g00496/impl.blank
def pb67 : PC :=
.seq (.reg [1] [] [
   ⟨some 1, .box 25 (.t 0), none⟩,
   ⟨some 2, .mv (.c (.v false (.bool false))), none⟩] none)
 (.seq (.reg [2] [(26, 2)] [
    ⟨some 3, .fad (.t 1) 1, none⟩,
    ⟨some 4, .ld false 1 (.t 3), none⟩,
    ⟨some 5, .bin .eql (.t 4) (.c (.v false (.int .i64 0))), none⟩,
    ⟨some 6, .mv (.t 5), none⟩,
    ⟨some 7, .fad (.t 1) 2, some (6, true)⟩,
    ⟨some 8, .ld false 1 (.t 7), some (6, true)⟩,
    ⟨some 9, .bin .eql (.t 8) (.c (.v false (.int .i64 0))), some (6, true)⟩,
    ⟨some 10, .pick (.t 6) (.t 9) (.c (.v false (.bool false))), none⟩,
    ⟨some 11, .mv (.t 10), none⟩,
    ⟨some 12, .fad (.t 1) 3, some (11, true)⟩,
    ⟨some 13, .ld false 1 (.t 12), some (11, true)⟩,
    ⟨some 14, .len (.t 13), some (11, true)⟩,
    ⟨some 15, .bin .eql (.t 14) (.c (.v false (.int .i64 0))), some (11, true)⟩,
    ⟨some 16, .pick (.t 11) (.t 15) (.c (.v false (.bool false))), none⟩,
    ⟨some 17, .mv (.t 16), none⟩,
    ⟨some 18, .fad (.t 1) 4, some (17, true)⟩,
    ⟨some 19, .ld false 1 (.t 18), some (17, true)⟩,
    ⟨some 20, .bin .eql (.t 19) (.c (.v false (.int .i64 0))), some (17, true)⟩,
    ⟨some 21, .pick (.t 17) (.t 20) (.c (.v false (.bool false))), none⟩,
    ⟨some 22, .mv (.t 21), none⟩,
    ⟨some 23, .fad (.t 1) 5, some (22, true)⟩,
    ⟨some 24, .ld true 10 (.t 23), some (22, true)⟩,
    ⟨some 25, .build [(.v false (.int .i64 0)), (.v false (.int .i64 0)), (.v false (.int .i64 0)), (.v false (.int .i64 0)), (.v false (.int .i64 0)), (.v false (.int .i64 0)), (.v false (.str ⟨#[]⟩)), (.nl 7), (.v false (.int .i64 0)), (.nl 1)] [], some (22, true)⟩,
    ⟨some 26, .call 86 [] [(.t 24), (.t 25)], some (22, true)⟩,
    ⟨some 27, .pick (.t 22) (.t 26) (.c (.v false (.bool false))), none⟩,
    ⟨some 28, .mv (.t 27), none⟩,
    ⟨some 29, .fad (.t 1) 15, some (28, true)⟩,
    ⟨some 30, .ld false 1 (.t 29), some (28, true)⟩,
    ⟨some 31, .bin .eql (.t 30) (.c (.v false (.int .i64 0))), some (28, true)⟩,
    ⟨some 32, .pick (.t 28) (.t 31) (.c (.v false (.bool false))), none⟩,
    ⟨some 33, .mv (.t 32), none⟩,
    ⟨some 34, .fad (.t 1) 16, some (33, true)⟩,
    ⟨some 35, .ld false 1 (.t 34), some (33, true)⟩,
    ⟨some 36, .bin .eql (.t 35) (.c (.v false (.int .i64 0))), some (33, true)⟩,
    ⟨some 37, .pick (.t 33) (.t 36) (.c (.v false (.bool false))), none⟩,
    ⟨some 38, .mv (.t 37), none⟩,
    ⟨some 39, .fad (.t 1) 17, some (38, true)⟩,
    ⟨some 40, .ld false 1 (.t 39), some (38, true)⟩,
    ⟨some 41, .len (.t 40), some (38, true)⟩,
    ⟨some 42, .bin .eql (.t 41) (.c (.v false (.int .i64 0))), some (38, true)⟩,
    ⟨some 43, .pick (.t 38) (.t 42) (.c (.v false (.bool false))), none⟩,
    ⟨some 44, .mv (.t 43), none⟩,
    ⟨some 45, .fad (.t 1) 18, some (44, true)⟩,
    ⟨some 46, .ld false 1 (.t 45), some (44, true)⟩,
    ⟨some 47, .bin .eql (.t 46) (.c (.v false (.int .i64 0))), some (44, true)⟩,
    ⟨some 48, .pick (.t 44) (.t 47) (.c (.v false (.bool false))), none⟩,
    ⟨some 49, .mv (.t 48), none⟩,
    ⟨some 50, .fad (.t 1) 19, some (49, true)⟩,
    ⟨some 51, .ld false 1 (.t 50), some (49, true)⟩,
    ⟨some 52, .bin .eql (.t 51) (.c (.v false (.int .i64 0))), some (49, true)⟩,
    ⟨some 53, .pick (.t 49) (.t 52) (.c (.v false (.bool false))), none⟩,
    ⟨some 54, .mv (.t 53), none⟩,
    ⟨some 55, .fad (.t 1) 20, some (54, true)⟩,
    ⟨some 56, .ld false 1 (.t 55), some (54, true)⟩,
    ⟨some 57, .bin .eql (.t 56) (.c (.v false (.int .i64 0))), some (54, true)⟩,
    ⟨some 58, .pick (.t 54) (.t 57) (.c (.v false (.bool false))), none⟩,
    ⟨some 59, .mv (.t 58), none⟩,
    ⟨some 60, .fad (.t 1) 21, some (59, true)⟩,
    ⟨some 61, .ld false 1 (.t 60), some (59, true)⟩,
    ⟨some 62, .bin .eql (.t 61) (.c (.v false (.int .i64 0))), some (59, true)⟩,
    ⟨some 63, .pick (.t 59) (.t 62) (.c (.v false (.bool false))), none⟩,
    ⟨some 64, .mv (.t 63), none⟩,
    ⟨some 65, .fad (.t 1) 22, some (64, true)⟩,
    ⟨some 66, .ld false 1 (.t 65), some (64, true)⟩,
    ⟨some 67, .bin .eql (.t 66) (.c (.v false (.int .i64 0))), some (64, true)⟩,
    ⟨some 68, .pick (.t 64) (.t 67) (.c (.v false (.bool false))), none⟩,
    ⟨some 69, .mv (.t 68), none⟩,
    ⟨some 70, .fad (.t 1) 23, some (69, true)⟩,
    ⟨some 71, .ld false 1 (.t 70), some (69, true)⟩,
    ⟨some 72, .un .not (.t 71), some (69, true)⟩,
    ⟨some 73, .pick (.t 69) (.t 72) (.c (.v false (.bool false))), none⟩,
    ⟨some 74, .mv (.t 73), none⟩,
    ⟨some 75, .fad (.t 1) 24, some (74, true)⟩,
    ⟨some 76, .ld false 1 (.t 75), some (74, true)⟩,
    ⟨some 77, .len (.t 76), some (74, true)⟩,
    ⟨some 78, .bin .eql (.t 77) (.c (.v false (.int .i64 0))), some (74, true)⟩,
    ⟨some 79, .pick (.t 74) (.t 78) (.c (.v false (.bool false))), none⟩,
    ⟨some 2, .mv (.t 79), none⟩] none)
  (.ret))

def pf67 : PF := ⟨[.s 2], [], pb67⟩

-- loop.example/g00496/impl.mayHave
def pb81 : PC :=
.seq (.reg [0, 1] [] [
   ⟨some 4, .mv (.c (.v false (.bool false))), none⟩] none)
 (.seq (.seq (.reg [0, 1, 6] [] [
     ⟨some 5, .mv (.t 1), none⟩,
     ⟨some 6, .bin .eql (.t 5) (.c (.v false (.int .i64 0))), none⟩] none)
   (.cond (.t 6) (.seq (.reg [4] [] [
       ⟨some 4, .mv (.c (.v false (.bool true))), none⟩] none)
     (.ret))
    (.skip)))
  (.seq (.seq (.reg [1, 8] [] [
      ⟨some 7, .mv (.t 0), none⟩,
      ⟨some 8, .bin .lss (.t 7) (.c (.v false (.int .i64 3))), none⟩] none)
    (.cond (.t 8) (.seq (.reg [4] [(10, 4)] [
        ⟨some 9, .mv (.t 1), none⟩,
        ⟨some 10, .call 87 [] [(.t 9), (.c (.v false (.int .i64 1))), (.c (.v false (.int .i64 3)))], none⟩,
        ⟨some 4, .mv (.t 10), none⟩] none)
      (.ret))
     (.skip)))
   (.seq (.reg [4] [] [
      ⟨some 11, .mv (.t 1), none⟩,
      ⟨some 12, .bin .eql (.t 11) (.c (.v false (.int .i64 4))), none⟩,
      ⟨some 4, .mv (.t 12), none⟩] none)
    (.ret))))

def pf81 : PF := ⟨[.s 4], [], pb81⟩

-- loop.example/g00496/impl.refOk
def pb82 : PC :=
.seq (.reg [1] [] [
   ⟨some 1, .box 5 (.t 0), none⟩,
   ⟨some 2, .mv (.c (.v false (.bool false))), none⟩] none)
 (.seq (.reg [2] [(24, 2)] [
    ⟨some 3, .fad (.t 1) 0, none⟩,
    ⟨some 4, .ld false 1 (.t 3), none⟩,
    ⟨some 5, .bin .geq (.t 4) (.c (.v false (.int .i64 0))), none⟩,
    ⟨some 6, .mv (.t 5), none⟩,
    ⟨some 7, .fad (.t 1) 1, some (6, true)⟩,
    ⟨some 8, .ld false 1 (.t 7), some (6, true)⟩,
    ⟨some 9, .bin .geq (.t 8) (.c (.v false (.int .i64 0))), some (6, true)⟩,
    ⟨some 10, .pick (.t 6) (.t 9) (.c (.v false (.bool false))), none⟩,
    ⟨some 11, .mv (.t 10), none⟩,
    ⟨some 12, .fad (.t 1) 2, some (11, true)⟩,
    ⟨some 13, .ld false 1 (.t 12), some (11, true)⟩,
    ⟨some 14, .bin .eql (.t 13) (.c (.v false (.int .i64 1))), some (11, true)⟩,
    ⟨some 15, .mv (.t 14), some (11, true)⟩,
    ⟨some 16, .fad (.t 1) 2, some (15, false)⟩,
    ⟨some 17, .ld false 1 (.t 16), some (15, false)⟩,
    ⟨some 18, .bin .eql (.t 17) (.c (.v false (.int .i64 2))), some (15, false)⟩,
    ⟨some 19, .pick (.t 15) (.c (.v false (.bool true))) (.t 18), some (11, true)⟩,
    ⟨some 20, .pick (.t 11) (.t 19) (.c (.v false (.bool false))), none⟩,
    ⟨some 21, .mv (.t 20), none⟩,
    ⟨some 22, .fad (.t 1) 4, some (21, true)⟩,
    ⟨some 23, .ld false 1 (.t 22), some (21, true)⟩,
    ⟨some 24, .call 87 [] [(.t 23), (.c (.v false (.int .i64 1))), (.c (.v false (.int .i64 1000000000)))], some (21, true)⟩,
    ⟨some 25, .pick (.t 21) (.t 24) (.c (.v false (.bool false))), none⟩,
    ⟨some 2, .mv (.t 25), none⟩] none)
  (.ret))

def pf82 : PF := ⟨[.s 2], [], pb82⟩

-- loop.example/g00496/impl.sameInts
def pl84_0 : PC :=
.seq (.reg [0, 1, 12, 13, 14] [] [
         ⟨some 14, .bin .lss (.t 13) (.t 12), none⟩] none)
       (.seq (.cond (.t 14) (.skip)
         (.exit 0))
        (.seq (.blk 1 (.seq (.reg [0, 1, 5, 12, 13] [] [
             ⟨some 15, .mv (.t 13), none⟩,
             ⟨some 5, .mv (.t 15), none⟩] none)
           (.seq (.reg [0, 1, 12, 13, 24] [] [
              ⟨some 16, .mv (.t 0), none⟩,
              ⟨some 17, .mv (.t 5), none⟩,
              ⟨some 18, .iad 1 (.t 16) (.t 17), none⟩,
              ⟨some 19, .ld false 1 (.t 18), none⟩,
              ⟨some 20, .mv (.t 1), none⟩,
              ⟨some 21, .mv (.t 5), none⟩,
              ⟨some 22, .iad 1 (.t 20) (.t 21), none⟩,
              ⟨some 23, .ld false 1 (.t 22), none⟩,
              ⟨some 24, .bin .neq (.t 19) (.t 23), none⟩] (some []))
            (.cond (.t 24) (.seq (.reg [4] [] [
                ⟨some 4, .mv (.c (.v false (.bool false))), none⟩] none)
              (.ret))
             (.skip)))))
         (.reg [0, 1, 12, 13] [] [
           ⟨some 25, .bin .add (.t 13) (.c (.v false (.int .i64 1))), none⟩,
           ⟨some 13, .mv (.t 25), none⟩] none)))

def pb84 : PC :=
.seq (.reg [0, 1] [] [
   ⟨some 4, .mv (.c (.v false (.bool false))), none⟩] none)
 (.seq (.seq (.reg [0, 1, 10] [] [
     ⟨some 6, .mv (.t 0), none⟩,
     ⟨some 7, .len (.t 6), none⟩,
     ⟨some 8, .mv (.t 1), none⟩,
     ⟨some 9, .len (.t 8), none⟩,
     ⟨some 10, .bin .neq (.t 7) (.t 9), none⟩] none)
   (.cond (.t 10) (.seq (.reg [4] [] [
       ⟨some 4, .mv (.c (.v false (.bool false))), none⟩] none)
     (.ret))
    (.skip)))
  (.seq (.seq (.reg [0, 1, 12, 13] [] [
      ⟨some 11, .mv (.t 0), none⟩,
      ⟨some 12, .len (.t 11), none⟩,
      ⟨some 13, .mv (.c (.v false (.int .i64 0))), none⟩] none)
    (.blk 0 (.loop pl84_0)))
   (.seq (.reg [4] [] [
      ⟨some 4, .mv (.c (.v false (.bool true))), none⟩] none)
    (.ret))))

def pf84 : PF := ⟨[.s 4], [], pb84⟩

-- loop.example/g00496/impl.samePred
def pl85_0 : PC :=
.seq (.reg [2, 3, 43, 44, 45] [] [
         ⟨some 45, .bin .lss (.t 44) (.t 43), none⟩] none)
       (.seq (.cond (.t 45) (.skip)
         (.exit 0))
        (.seq (.blk 1 (.seq (.reg [2, 3, 5, 43, 44] [] [
             ⟨some 46, .mv (.t 44), none⟩,
             ⟨some 5, .mv (.t 46), none⟩] none)
           (.seq (.reg [2, 3, 43, 44, 58] [] [
              ⟨some 47, .fad (.t 2) 6, none⟩,
              ⟨some 48, .ld false 1 (.t 47), none⟩,
              ⟨some 49, .mv (.t 5), none⟩,
              ⟨some 50, .iad 7 (.t 48) (.t 49), none⟩,
              ⟨some 51, .ld true 7 (.t 50), none⟩,
              ⟨some 52, .fad (.t 3) 6, none⟩,
              ⟨some 53, .ld false 1 (.t 52), none⟩,
              ⟨some 54, .mv (.t 5), none⟩,
              ⟨some 55, .iad 7 (.t 53) (.t 54), none⟩,
              ⟨some 56, .ld true 7 (.t 55), none⟩,
              ⟨some 57, .call 85 [] [(.t 51), (.t 56)], none⟩,
              ⟨some 58, .un .not (.t 57), none⟩] (some []))
            (.cond (.t 58) (.seq (.reg [4] [] [
                ⟨some 4, .mv (.c (.v false (.bool false))), none⟩] none)
              (.ret))
             (.skip)))))
         (.reg [2, 3, 43, 44] [] [
           ⟨some 59, .bin .add (.t 44) (.c (.v false (.int .i64 1))), none⟩,
           ⟨some 44, .mv (.t 59), none⟩] none)))

def pb85 : PC :=
.seq (.reg [2, 3] [] [
   ⟨some 2, .box 7 (.t 0), none⟩,
   ⟨some 3, .box 7 (.t 1), none⟩,
   ⟨some 4, .mv (.c (.v false (.bool false))), none⟩] none)
 (.seq (.seq (.reg [2, 3, 40] [] [
     ⟨some 6, .fad (.t 2) 0, none⟩,
     ⟨some 7, .ld false 1 (.t 6), none⟩,
     ⟨some 8, .fad (.t 3) 0, none⟩,
     ⟨some 9, .ld false 1 (.t 8), none⟩,
     ⟨some 10, .bin .neq (.t 7) (.t 9), none⟩,
     ⟨some 11, .mv (.t 10), none⟩,
     ⟨some 12, .fad (.t 2) 1, some (11, false)⟩,
     ⟨some 13, .ld false 1 (.t 12), some (11, false)⟩,
     ⟨some 14, .fad (.t 3) 1, some (11, false)⟩,
     ⟨some 15, .ld false 1 (.t 14), some (11, false)⟩,
     ⟨some 16, .bin .neq (.t 13) (.t 15), some (11, false)⟩,
     ⟨some 17, .pick (.t 11) (.c (.v false (.bool true))) (.t 16), none⟩,
     ⟨some 18, .mv (.t 17), none⟩,
     ⟨some 19, .fad (.t 2) 2, some (18, false)⟩,
     ⟨some 20, .ld false 1 (.t 19), some (18, false)⟩,
     ⟨some 21, .fad (.t 3) 2, some (18, false)⟩,
     ⟨some 22, .ld false 1 (.t 21), some (18, false)⟩,
     ⟨some 23, .bin .neq (.t 20) (.t 22), some (18, false)⟩,
     ⟨some 24, .pick (.t 18) (.c (.v false (.bool true))) (.t 23), none⟩,
     ⟨some 25, .mv (.t 24), none⟩,
     ⟨some 26, .fad (.t 2) 3, some (25, false)⟩,
     ⟨some 27, .ld true 3 (.t 26), some (25, false)⟩,
     ⟨some 28, .fad (.t 3) 3, some (25, false)⟩,
     ⟨some 29, .ld true 3 (.t 28), some (25, false)⟩,
     ⟨some 30, .eqs true [0, 0, 2] (.t 27) (.t 29), some (25, false)⟩,
     ⟨some 31, .pick (.t 25) (.c (.v false (.bool true))) (.t 30), none⟩,
     ⟨some 32, .mv (.t 31), none⟩,
     ⟨some 33, .fad (.t 2) 6, some (32, false)⟩,
     ⟨some 34, .ld false 1 (.t 33), some (32, false)⟩,
     ⟨some 35, .len (.t 34), some (32, false)⟩,
     ⟨some 36, .fad (.t 3) 6, some (32, false)⟩,
     ⟨some 37, .ld false 1 (.t 36), some (32, false)⟩,
     ⟨some 38, .len (.t 37), some (32, false)⟩,
     ⟨some 39, .bin .neq (.t 35) (.t 38), some (32, false)⟩,
     ⟨some 40, .pick (.t 32) (.c (.v false (.bool true))) (.t 39), none⟩] none)
   (.cond (.t 40) (.seq (.reg [4] [] [
       ⟨some 4, .mv (.c (.v false (.bool false))), none⟩] none)
     (.ret))
    (.skip)))
  (.seq (.seq (.reg [2, 3, 43, 44] [] [
      ⟨some 41, .fad (.t 2) 6, none⟩,
      ⟨some 42, .ld false 1 (.t 41), none⟩,
      ⟨some 43, .len (.t 42), none⟩,
      ⟨some 44, .mv (.c (.v false (.int .i64 0))), none⟩] none)
    (.blk 0 (.loop pl85_0)))
   (.seq (.reg [4] [] [
      ⟨some 4, .mv (.c (.v false (.bool true))), none⟩] none)
    (.ret))))

def pf85 : PF := ⟨[.s 4], [], pb85⟩

-- loop.example/g00496/impl.sameQuery
def pb86 : PC :=
.seq (.reg [2, 3] [] [
   ⟨some 2, .box 10 (.t 0), none⟩,
   ⟨some 3, .box 10 (.t 1), none⟩,
   ⟨some 4, .mv (.c (.v false (.bool false))), none⟩] none)
 (.seq (.reg [4, 29] [(15, 4)] [
    ⟨some 5, .fad (.t 2) 0, none⟩,
    ⟨some 6, .ld false 1 (.t 5), none⟩,
    ⟨some 7, .fad (.t 3) 0, none⟩,
    ⟨some 8, .ld false 1 (.t 7), none⟩,
    ⟨some 9, .bin .eql (.t 6) (.t 8), none⟩,
    ⟨some 10, .mv (.t 9), none⟩,
    ⟨some 11, .fad (.t 2) 1, some (10, true)⟩,
    ⟨some 12, .ld true 7 (.t 11), some (10, true)⟩,
    ⟨some 13, .fad (.t 3) 1, some (10, true)⟩,
    ⟨some 14, .ld true 7 (.t 13), some (10, true)⟩,
    ⟨some 15, .call 85 [] [(.t 12), (.t 14)], some (10, true)⟩,
    ⟨some 16, .pick (.t 10) (.t 15) (.c (.v false (.bool false))), none⟩,
    ⟨some 17, .mv (.t 16), none⟩,
    ⟨some 18, .fad (.t 2) 8, some (17, true)⟩,
    ⟨some 19, .ld false 1 (.t 18), some (17, true)⟩,
    ⟨some 20, .fad (.t 3) 8, some (17, true)⟩,
    ⟨some 21, .ld false 1 (.t 20), some (17, true)⟩,
    ⟨some 22, .bin .eql (.t 19) (.t 21), some (17, true)⟩,
    ⟨some 23, .pick (.t 17) (.t 22) (.c (.v false (.bool false))), none⟩,
    ⟨some 24, .mv (.t 23), none⟩,
    ⟨some 25, .fad (.t 2) 9, some (24, true)⟩,
    ⟨some 26, .ld false 1 (.t 25), some (24, true)⟩,
    ⟨some 27, .fad (.t 3) 9, some (24, true)⟩,
    ⟨some 28, .ld false 1 (.t 27), some (24, true)⟩,
    ⟨some 29, .call 84 [] [(.t 26), (.t 28)], some (24, true)⟩,
    ⟨some 30, .pick (.t 24) (.t 29) (.c (.v false (.bool false))), none⟩,
    ⟨some 4, .mv (.t 30), none⟩] none)
  (.ret))

def pf86 : PF := ⟨[.s 4], [], pb86⟩

-- loop.example/g00496/impl.within
def pb87 : PC :=
.seq (.reg [0, 1, 2] [] [
   ⟨some 6, .mv (.c (.v false (.bool false))), none⟩] none)
 (.seq (.reg [6] [] [
    ⟨some 7, .mv (.t 0), none⟩,
    ⟨some 8, .mv (.t 1), none⟩,
    ⟨some 9, .bin .geq (.t 7) (.t 8), none⟩,
    ⟨some 10, .mv (.t 9), none⟩,
    ⟨some 11, .mv (.t 0), some (10, true)⟩,
    ⟨some 12, .mv (.t 2), some (10, true)⟩,
    ⟨some 13, .bin .leq (.t 11) (.t 12), some (10, true)⟩,
    ⟨some 14, .pick (.t 10) (.t 13) (.c (.v false (.bool false))), none⟩,
    ⟨some 6, .mv (.t 14), none⟩] none)
  (.ret))

def pf87 : PF := ⟨[.s 6], [], pb87⟩

-- loop.example/g00496/laws.FnTasks
def pb139 : PC :=
.seq (.reg [0] [] [
   ⟨some 2, .mv (.c (.v false (.bool false))), none⟩] none)
 (.seq (.seq (.reg [0, 9] [] [
     ⟨some 8, .mv (.t 0), none⟩,
     ⟨some 9, .call 141 [] [(.t 8)], none⟩] none)
   (.cond (.t 9) (.seq (.reg [2] [] [
       ⟨some 2, .mv (.c (.v false (.bool true))), none⟩] none)
     (.ret))
    (.skip)))
  (.seq (.reg [0, 3, 4] [(12, 4)] [
     ⟨some 11, .mv (.t 0), none⟩,
     ⟨some 12, .call 292 [] [(.t 11)], none⟩,
     ⟨some 10, .mv (.t 12), none⟩,
     ⟨some 13, .ext (.t 10) 0, none⟩,
     ⟨some 14, .ext (.t 10) 1, none⟩,
     ⟨some 3, .alloc [(.v false (.int .i64 0)), (.v false (.int .i64 0)), (.v false (.int .i64 0)), (.nl 3), (.v false (.int .i64 0)), (.v false (.int .i64 0)), (.v false (.int .i64 0)), (.v false (.int .i64 0)), (.v false (.int .i64 0)), (.v false (.int .i64 0)), (.v false (.int .i64 0)), (.v false (.str ⟨#[]⟩)), (.nl 7), (.v false (.int .i64 0)), (.nl 1), (.v false (.int .i64 0)), (.v false (.int .i64 0)), (.nl 5), (.v false (.int .i64 0)), (.v false (.int .i64 0)), (.v false (.int .i64 0)), (.v false (.int .i64 0)), (.v false (.int .i64 0)), (.v false (.bool false)), (.nl 2)], none⟩,
     ⟨none, .st 25 (.t 3) (.t 13), none⟩,
     ⟨some 4, .mv (.t 14), none⟩] none)
   (.seq (.reg [0, 3, 4, 5, 6] [(17, 6)] [
      ⟨some 16, .mv (.t 0), none⟩,
      ⟨some 17, .call 279 [] [(.t 16)], none⟩,
      ⟨some 15, .mv (.t 17), none⟩,
      ⟨some 18, .ext (.t 15) 0, none⟩,
      ⟨some 19, .ext (.t 15) 1, none⟩,
      ⟨some 5, .alloc [(.v false (.int .i64 0)), (.v false (.int .i64 0)), (.v false (.int .i64 0)), (.nl 3), (.v false (.int .i64 0)), (.v false (.int .i64 0)), (.v false (.int .i64 0)), (.v false (.int .i64 0)), (.v false (.int .i64 0)), (.v false (.int .i64 0)), (.v false (.int .i64 0)), (.v false (.str ⟨#[]⟩)), (.nl 7), (.v false (.int .i64 0)), (.nl 1), (.v false (.int .i64 0)), (.v false (.int .i64 0)), (.nl 5), (.v false (.int .i64 0)), (.v false (.int .i64 0)), (.v false (.int .i64 0)), (.v false (.int .i64 0)), (.v false (.int .i64 0)), (.v false (.bool false)), (.nl 2)], none⟩,
      ⟨none, .st 25 (.t 5) (.t 18), none⟩,
      ⟨some 6, .mv (.t 19), none⟩] none)
    (.seq (.reg [3, 4, 5, 6, 7] [(21, 7)] [
       ⟨some 20, .mv (.t 0), none⟩,
       ⟨some 21, .call 281 [] [(.t 20)], none⟩,
       ⟨some 7, .mv (.t 21), none⟩] none)
     (.seq (.seq (.reg [3, 65] [] [
         ⟨some 22, .ld true 25 (.t 3), none⟩,
         ⟨some 23, .mv (.t 4), none⟩,
         ⟨some 24, .call 58 [] [(.t 22), (.t 23)], none⟩,
         ⟨some 25, .ld true 25 (.t 3), none⟩,
         ⟨some 26, .mv (.t 4), none⟩,
         ⟨some 27, .call 339 [] [(.t 25), (.t 26)], none⟩,
         ⟨some 28, .eqb true (.t 24) (.t 27), none⟩,
         ⟨some 29, .mv (.t 28), none⟩,
         ⟨some 30, .ld true 25 (.t 3), some (29, false)⟩,
         ⟨some 31, .call 29 [] [(.t 30)], some (29, false)⟩,
         ⟨some 32, .ld true 25 (.t 3), some (29, false)⟩,
         ⟨some 33, .call 308 [] [(.t 32)], some (29, false)⟩,
         ⟨some 34, .eqb true (.t 31) (.t 33), some (29, false)⟩,
         ⟨some 35, .pick (.t 29) (.c (.v false (.bool true))) (.t 34), none⟩,
         ⟨some 36, .mv (.t 35), none⟩,
         ⟨some 37, .ld true 25 (.t 3), some (36, false)⟩,
         ⟨some 38, .call 24 [] [(.t 37)], some (36, false)⟩,
         ⟨some 39, .ld true 25 (.t 3), some (36, false)⟩,
         ⟨some 40, .call 303 [] [(.t 39)], some (36, false)⟩,
         ⟨some 41, .eqb true (.t 38) (.t 40), some (36, false)⟩,
         ⟨some 42, .pick (.t 36) (.c (.v false (.bool true))) (.t 41), none⟩,
         ⟨some 43, .mv (.t 42), none⟩,
         ⟨some 44, .ld true 25 (.t 5), some (43, false)⟩,
         ⟨some 45, .mv (.t 6), some (43, false)⟩,
         ⟨some 46, .call 25 [] [(.t 44), (.t 45)], some (43, false)⟩,
         ⟨some 47, .ld true 25 (.t 5), some (43, false)⟩,
         ⟨some 48, .mv (.t 6), some (43, false)⟩,
         ⟨some 49, .call 304 [] [(.t 47), (.t 48)], some (43, false)⟩,
         ⟨some 50, .eqb true (.t 46) (.t 49), some (43, false)⟩,
         ⟨some 51, .pick (.t 43) (.c (.v false (.bool true))) (.t 50), none⟩,
         ⟨some 52, .mv (.t 51), none⟩,
         ⟨some 53, .mv (.t 7), some (52, false)⟩,
         ⟨some 54, .call 34 [] [(.t 53)], some (52, false)⟩,
         ⟨some 55, .mv (.t 7), some (52, false)⟩,
         ⟨some 56, .call 315 [] [(.t 55)], some (52, false)⟩,
         ⟨some 57, .bin .neq (.t 54) (.t 56), some (52, false)⟩,
         ⟨some 58, .pick (.t 52) (.c (.v false (.bool true))) (.t 57), none⟩,
         ⟨some 59, .mv (.t 58), none⟩,
         ⟨some 60, .ld true 25 (.t 3), some (59, false)⟩,
         ⟨some 61, .call 27 [] [(.t 60)], some (59, false)⟩,
         ⟨some 62, .ld true 25 (.t 3), some (59, false)⟩,
         ⟨some 63, .call 306 [] [(.t 62)], some (59, false)⟩,
         ⟨some 64, .eqb true (.t 61) (.t 63), some (59, false)⟩,
         ⟨some 65, .pick (.t 59) (.c (.v false (.bool true))) (.t 64), none⟩] (some [(2, 3), (9, 10), (16, 17), (24, 25), (39, 40)]))
       (.cond (.t 65) (.seq (.reg [2] [] [
           ⟨some 2, .mv (.c (.v false (.bool false))), none⟩] none)
         (.ret))
        (.skip)))
      (.seq (.seq (.reg [67, 70, 73, 84] [(78, 84)] [
          ⟨some 66, .ld true 25 (.t 3), none⟩,
          ⟨some 67, .call 27 [] [(.t 66)], none⟩,
          ⟨some 68, .mv (.t 67), none⟩,
          ⟨some 69, .ld true 25 (.t 3), some (68, true)⟩,
          ⟨some 70, .call 29 [] [(.t 69)], some (68, true)⟩,
          ⟨some 71, .mv (.t 70), some (68, true)⟩,
          ⟨some 72, .ld true 25 (.t 3), some (71, false)⟩,
          ⟨some 73, .call 24 [] [(.t 72)], some (71, false)⟩,
          ⟨some 74, .pick (.t 71) (.c (.v false (.bool true))) (.t 73), some (68, true)⟩,
          ⟨some 75, .pick (.t 68) (.t 74) (.c (.v false (.bool false))), none⟩,
          ⟨some 76, .mv (.t 75), none⟩,
          ⟨some 77, .ld true 25 (.t 3), some (76, false)⟩,
          ⟨some 78, .call 24 [] [(.t 77)], some (76, false)⟩,
          ⟨some 79, .mv (.t 78), some (76, false)⟩,
          ⟨some 80, .ld true 25 (.t 3), some (79, true)⟩,
          ⟨some 81, .call 29 [] [(.t 80)], some (79, true)⟩,
          ⟨some 82, .un .not (.t 81), some (79, true)⟩,
          ⟨some 83, .pick (.t 79) (.t 82) (.c (.v false (.bool false))), some (76, false)⟩,
          ⟨some 84, .pick (.t 76) (.c (.v false (.bool true))) (.t 83), none⟩] none)
        (.cond (.t 84) (.seq (.reg [2] [] [
            ⟨some 2, .mv (.c (.v false (.bool false))), none⟩] none)
          (.ret))
         (.skip)))
       (.seq (.reg [2, 89] [(86, 2)] [
          ⟨some 85, .build [(.v false (.int .i64 0)), (.v false (.int .i64 0)), (.v false (.int .i64 0)), (.nl 3), (.v false (.int .i64 0)), (.v false (.int .i64 0)), (.v false (.int .i64 0)), (.v false (.int .i64 0)), (.v false (.int .i64 0)), (.v false (.int .i64 0)), (.v false (.int .i64 0)), (.v false (.str ⟨#[]⟩)), (.nl 7), (.v false (.int .i64 0)), (.nl 1), (.v false (.int .i64 0)), (.v false (.int .i64 0)), (.nl 5), (.v false (.int .i64 0)), (.v false (.int .i64 0)), (.v false (.int .i64 0)), (.v false (.int .i64 0)), (.v false (.int .i64 0)), (.v false (.bool false)), (.nl 2)] [], none⟩,
          ⟨some 86, .call 58 [] [(.t 85), (.c (.v false (.int .i64 0)))], none⟩,
          ⟨some 87, .mv (.t 86), none⟩,
          ⟨some 88, .build [(.v false (.int .i64 0)), (.v false (.int .i64 0)), (.v false (.int .i64 0)), (.nl 3), (.v false (.int .i64 0)), (.v false (.int .i64 0)), (.v false (.int .i64 0)), (.v false (.int .i64 0)), (.v false (.int .i64 0)), (.v false (.int .i64 0)), (.v false (.int .i64 0)), (.v false (.str ⟨#[]⟩)), (.nl 7), (.v false (.int .i64 0)), (.nl 1), (.v false (.int .i64 0)), (.v false (.int .i64 0)), (.nl 5), (.v false (.int .i64 0)), (.v false (.int .i64 0)), (.v false (.int .i64 0)), (.v false (.int .i64 0)), (.v false (.int .i64 0)), (.v false (.bool false)), (.nl 2)] [], some (87, true)⟩,
          ⟨some 89, .call 58 [] [(.t 88), (.c (.v false (.int .i64 4)))], some (87, true)⟩,
          ⟨some 90, .pick (.t 87) (.t 89) (.c (.v false (.bool false))), none⟩,
          ⟨some 91, .mv (.t 90), none⟩,
          ⟨some 92, .build [(.v false (.int .i64 0)), (.v false (.int .i64 0)), (.v false (.int .i64 0)), (.nl 3), (.v false (.int .i64 0)), (.v false (.int .i64 0)), (.v false (.int .i64 0)), (.v false (.int .i64 0)), (.v false (.int .i64 0)), (.v false (.int .i64 0)), (.v false (.int .i64 0)), (.v false (.str ⟨#[]⟩)), (.nl 7), (.v false (.int .i64 0)), (.nl 1), (.v false (.int .i64 0)), (.v false (.int .i64 0)), (.nl 5), (.v false (.int .i64 0)), (.v false (.int .i64 0)), (.v false (.int .i64 0)), (.v false (.int .i64 0)), (.v false (.int .i64 0)), (.v false (.bool false)), (.nl 2)] [], some (91, true)⟩,
          ⟨some 93, .call 58 [] [(.t 92), (.c (.v false (.int .i64 5)))], some (91, true)⟩,
          ⟨some 94, .un .not (.t 93), some (91, true)⟩,
          ⟨some 95, .pick (.t 91) (.t 94) (.c (.v false (.bool false))), none⟩,
          ⟨some 2, .mv (.t 95), none⟩] none)
        (.ret))))))))

def pf139 : PF := ⟨[.s 2], [], pb139⟩

-- loop.example/g00496/laws.big
def pb141 : PC :=
.seq (.reg [0] [] [
   ⟨some 2, .mv (.c (.v false (.bool false))), none⟩] none)
 (.seq (.reg [2] [] [
    ⟨some 3, .mv (.t 0), none⟩,
    ⟨some 4, .len (.t 3), none⟩,
    ⟨some 5, .bin .gtr (.t 4) (.c (.v false (.int .i64 1048576))), none⟩,
    ⟨some 2, .mv (.t 5), none⟩] none)
  (.ret))

def pf141 : PF := ⟨[.s 2], [], pb141⟩

-- loop.example/g00496/spec.ColsOk
def pl268_0 : PC :=
.seq (.seq (.reg [0, 3, 7] [] [
         ⟨some 4, .mv (.t 3), none⟩,
         ⟨some 5, .mv (.t 0), none⟩,
         ⟨some 6, .len (.t 5), none⟩,
         ⟨some 7, .bin .lss (.t 4) (.t 6), none⟩] none)
       (.cond (.t 7) (.skip)
        (.exit 0)))
      (.seq (.blk 1 (.seq (.reg [0, 3, 15] [] [
           ⟨some 10, .mv (.t 0), none⟩,
           ⟨some 11, .mv (.t 3), none⟩,
           ⟨some 12, .iad 1 (.t 10) (.t 11), none⟩,
           ⟨some 13, .ld false 1 (.t 12), none⟩,
           ⟨some 14, .call 377 [] [(.t 13), (.c (.v false (.int .i64 1))), (.c (.v false (.int .i64 2)))], none⟩,
           ⟨some 15, .un .not (.t 14), none⟩] none)
         (.cond (.t 15) (.seq (.reg [2] [] [
             ⟨some 2, .mv (.c (.v false (.bool false))), none⟩] none)
           (.ret))
          (.skip))))
       (.reg [0, 3] [] [
         ⟨some 8, .mv (.t 3), none⟩,
         ⟨some 9, .bin .add (.t 8) (.c (.v false (.int .i64 1))), none⟩,
         ⟨some 3, .mv (.t 9), none⟩] none))

def pb268 : PC :=
.seq (.reg [0] [] [
   ⟨some 2, .mv (.c (.v false (.bool false))), none⟩] none)
 (.seq (.seq (.reg [0, 3] [] [
     ⟨some 3, .mv (.c (.v false (.int .i64 0))), none⟩] none)
   (.blk 0 (.loop pl268_0)))
  (.seq (.reg [2] [(18, 2)] [
     ⟨some 16, .mv (.t 0), none⟩,
     ⟨some 17, .len (.t 16), none⟩,
     ⟨some 18, .call 377 [] [(.t 17), (.c (.v false (.int .i64 1))), (.c (.v false (.int .i64 3)))], none⟩,
     ⟨some 2, .mv (.t 18), none⟩] none)
   (.ret)))

def pf268 : PF := ⟨[.s 2], [], pb268⟩

-- loop.example/g00496/spec.DrawHolding
def pb279 : PC :=
.seq (.reg [0, 2] [] [
   ⟨some 2, .alloc [(.v false (.int .i64 0)), (.v false (.int .i64 0)), (.v false (.int .i64 0)), (.nl 3), (.v false (.int .i64 0)), (.v false (.int .i64 0)), (.v false (.int .i64 0)), (.v false (.int .i64 0)), (.v false (.int .i64 0)), (.v false (.int .i64 0)), (.v false (.int .i64 0)), (.v false (.str ⟨#[]⟩)), (.nl 7), (.v false (.int .i64 0)), (.nl 1), (.v false (.int .i64 0)), (.v false (.int .i64 0)), (.nl 5), (.v false (.int .i64 0)), (.v false (.int .i64 0)), (.v false (.int .i64 0)), (.v false (.int .i64 0)), (.v false (.int .i64 0)), (.v false (.bool false)), (.nl 2)], none⟩,
   ⟨some 3, .mv (.c (.v false (.int .i64 0))), none⟩] none)
 (.seq (.reg [2, 4] [(8, 4)] [
    ⟨some 7, .mv (.t 0), none⟩,
    ⟨some 8, .call 379 [] [(.t 7)], none⟩,
    ⟨some 4, .mv (.t 8), none⟩] none)
  (.seq (.reg [2, 4, 5] [] [
     ⟨some 10, .mv (.t 4), none⟩,
     ⟨some 11, .call 371 [0] [(.t 10)], none⟩,
     ⟨some 9, .mv (.t 11), none⟩,
     ⟨some 12, .ext (.t 9) 0, none⟩,
     ⟨some 13, .ext (.t 9) 1, none⟩,
     ⟨some 5, .alloc [(.v false (.int .i64 0)), (.v false (.int .i64 0)), (.v false (.int .i64 0)), (.nl 3), (.v false (.int .i64 0)), (.v false (.int .i64 0)), (.v false (.int .i64 0)), (.v false (.int .i64 0)), (.v false (.int .i64 0)), (.v false (.int .i64 0)), (.v false (.int .i64 0)), (.v false (.str ⟨#[]⟩)), (.nl 7), (.v false (.int .i64 0)), (.nl 1), (.v false (.int .i64 0)), (.v false (.int .i64 0)), (.nl 5), (.v false (.int .i64 0)), (.v false (.int .i64 0)), (.v false (.int .i64 0)), (.v false (.int .i64 0)), (.v false (.int .i64 0)), (.v false (.bool false)), (.nl 2)], none⟩,
     ⟨none, .st 25 (.t 5) (.t 12), none⟩,
     ⟨some 6, .mv (.t 13), none⟩] none)
   (.seq (.reg [2, 3] [(16, 3)] [
      ⟨some 14, .ld true 25 (.t 5), none⟩,
      ⟨some 15, .mv (.t 4), none⟩,
      ⟨some 16, .call 375 [0] [(.t 15), (.c (.v false (.int .i64 4)))], none⟩,
      ⟨none, .st 25 (.t 2) (.t 14), none⟩,
      ⟨some 3, .mv (.t 16), none⟩] (some [(0, 2)]))
    (.ret))))

def pf279 : PF := ⟨[.b 2 25 true, .s 3], [], pb279⟩

-- loop.example/g00496/spec.DrawOpName
def pb281 : PC :=
.seq (.reg [0] [] [
   ⟨some 2, .mv (.c (.v false (.int .i64 0))), none⟩] none)
 (.seq (.reg [3] [(5, 3)] [
    ⟨some 4, .mv (.t 0), none⟩,
    ⟨some 5, .call 379 [] [(.t 4)], none⟩,
    ⟨some 3, .mv (.t 5), none⟩] none)
  (.seq (.reg [2] [] [
     ⟨some 6, .mv (.t 3), none⟩,
     ⟨some 7, .call 375 [0] [(.t 6), (.c (.v false (.int .i64 7)))], none⟩,
     ⟨some 8, .bin .sub (.t 7) (.c (.v false (.int .i64 1))), none⟩,
     ⟨some 2, .mv (.t 8), none⟩] none)
   (.ret)))

def pf281 : PF := ⟨[.s 2], [], pb281⟩

-- loop.example/g00496/spec.DrawTaskOk
def pb292 : PC :=
.seq (.reg [0, 2] [] [
   ⟨some 2, .alloc [(.v false (.int .i64 0)), (.v false (.int .i64 0)), (.v false (.int .i64 0)), (.nl 3), (.v false (.int .i64 0)), (.v false (.int .i64 0)), (.v false (.int .i64 0)), (.v false (.int .i64 0)), (.v false (.int .i64 0)), (.v false (.int .i64 0)), (.v false (.int .i64 0)), (.v false (.str ⟨#[]⟩)), (.nl 7), (.v false (.int .i64 0)), (.nl 1), (.v false (.int .i64 0)), (.v false (.int .i64 0)), (.nl 5), (.v false (.int .i64 0)), (.v false (.int .i64 0)), (.v false (.int .i64 0)), (.v false (.int .i64 0)), (.v false (.int .i64 0)), (.v false (.bool false)), (.nl 2)], none⟩,
   ⟨some 3, .mv (.c (.v false (.int .i64 0))), none⟩] none)
 (.seq (.reg [2, 4] [(6, 4)] [
    ⟨some 5, .mv (.t 0), none⟩,
    ⟨some 6, .call 379 [] [(.t 5)], none⟩,
    ⟨some 4, .mv (.t 6), none⟩] none)
  (.seq (.reg [2, 3] [(8, 3)] [
     ⟨some 7, .mv (.t 4), none⟩,
     ⟨some 8, .call 371 [0] [(.t 7)], none⟩,
     ⟨some 9, .ext (.t 8) 0, none⟩,
     ⟨some 10, .ext (.t 8) 1, none⟩,
     ⟨none, .st 25 (.t 2) (.t 9), none⟩,
     ⟨some 3, .mv (.t 10), none⟩] none)
   (.ret)))

def pf292 : PF := ⟨[.b 2 25 true, .s 3], [], pb292⟩

-- loop.example/g00496/spec.HasTs
def pb303 : PC :=
.seq (.reg [1] [] [
   ⟨some 1, .box 25 (.t 0), none⟩,
   ⟨some 2, .mv (.c (.v false (.bool false))), none⟩] none)
 (.seq (.reg [2] [] [
    ⟨some 3, .fad (.t 1) 0, none⟩,
    ⟨some 4, .ld false 1 (.t 3), none⟩,
    ⟨some 5, .bin .eql (.t 4) (.c (.v false (.int .i64 3))), none⟩,
    ⟨some 6, .mv (.t 5), none⟩,
    ⟨some 7, .fad (.t 1) 1, some (6, true)⟩,
    ⟨some 8, .ld false 1 (.t 7), some (6, true)⟩,
    ⟨some 9, .bin .geq (.t 8) (.c (.v false (.int .i64 2))), some (6, true)⟩,
    ⟨some 10, .pick (.t 6) (.t 9) (.c (.v false (.bool false))), none⟩,
    ⟨some 2, .mv (.t 10), none⟩] none)
  (.ret))

def pf303 : PF := ⟨[.s 2], [], pb303⟩

-- loop.example/g00496/spec.Holding
def pl304_0 : PC :=
.seq (.seq (.reg [1, 2, 5, 10] [] [
         ⟨some 6, .mv (.t 5), none⟩,
         ⟨some 7, .fad (.t 2) 17, none⟩,
         ⟨some 8, .ld false 1 (.t 7), none⟩,
         ⟨some 9, .len (.t 8), none⟩,
         ⟨some 10, .bin .lss (.t 6) (.t 9), none⟩] none)
       (.cond (.t 10) (.skip)
        (.exit 0)))
      (.seq (.blk 1 (.seq (.reg [1, 2, 5, 20] [] [
           ⟨some 13, .fad (.t 2) 17, none⟩,
           ⟨some 14, .ld false 1 (.t 13), none⟩,
           ⟨some 15, .mv (.t 5), none⟩,
           ⟨some 16, .iad 5 (.t 14) (.t 15), none⟩,
           ⟨some 17, .fad (.t 16) 0, none⟩,
           ⟨some 18, .ld false 1 (.t 17), none⟩,
           ⟨some 19, .mv (.t 1), none⟩,
           ⟨some 20, .bin .eql (.t 18) (.t 19), none⟩] none)
         (.cond (.t 20) (.seq (.reg [4] [] [
             ⟨some 4, .mv (.c (.v false (.bool true))), none⟩] none)
           (.ret))
          (.skip))))
       (.reg [1, 2, 5] [] [
         ⟨some 11, .mv (.t 5), none⟩,
         ⟨some 12, .bin .add (.t 11) (.c (.v false (.int .i64 1))), none⟩,
         ⟨some 5, .mv (.t 12), none⟩] none))

def pb304 : PC :=
.seq (.reg [1, 2] [] [
   ⟨some 2, .box 25 (.t 0), none⟩,
   ⟨some 4, .mv (.c (.v false (.bool false))), none⟩] none)
 (.seq (.seq (.reg [1, 2, 5] [] [
     ⟨some 5, .mv (.c (.v false (.int .i64 0))), none⟩] none)
   (.blk 0 (.loop pl304_0)))
  (.seq (.reg [4] [] [
     ⟨some 4, .mv (.c (.v false (.bool false))), none⟩] none)
   (.ret)))

def pf304 : PF := ⟨[.s 4], [], pb304⟩

-- loop.example/g00496/spec.Idle
def pb306 : PC :=
.seq (.reg [1] [] [
   ⟨some 1, .box 25 (.t 0), none⟩,
   ⟨some 2, .mv (.c (.v false (.bool false))), none⟩] none)
 (.seq (.reg [2] [] [
    ⟨some 3, .fad (.t 1) 0, none⟩,
    ⟨some 4, .ld false 1 (.t 3), none⟩,
    ⟨some 5, .bin .eql (.t 4) (.c (.v false (.int .i64 0))), none⟩,
    ⟨some 2, .mv (.t 5), none⟩] none)
  (.ret))

def pf306 : PF := ⟨[.s 2], [], pb306⟩

-- loop.example/g00496/spec.Looks
def pb308 : PC :=
.seq (.reg [1] [] [
   ⟨some 1, .box 25 (.t 0), none⟩,
   ⟨some 2, .mv (.c (.v false (.bool false))), none⟩] none)
 (.seq (.reg [2] [] [
    ⟨some 3, .fad (.t 1) 0, none⟩,
    ⟨some 4, .ld false 1 (.t 3), none⟩,
    ⟨some 5, .bin .neq (.t 4) (.c (.v false (.int .i64 0))), none⟩,
    ⟨some 6, .mv (.t 5), none⟩,
    ⟨some 7, .fad (.t 1) 1, some (6, true)⟩,
    ⟨some 8, .ld false 1 (.t 7), some (6, true)⟩,
    ⟨some 9, .bin .geq (.t 8) (.c (.v false (.int .i64 1))), some (6, true)⟩,
    ⟨some 10, .pick (.t 6) (.t 9) (.c (.v false (.bool false))), none⟩,
    ⟨some 2, .mv (.t 10), none⟩] none)
  (.ret))

def pf308 : PF := ⟨[.s 2], [], pb308⟩

-- loop.example/g00496/spec.OpName
def pb315 : PC :=
.seq (.reg [0] [] [
   ⟨some 2, .mv (.c (.v false (.str ⟨#[]⟩))), none⟩] none)
 (.seq (.reg [0, 3] [(4, 3)] [
    ⟨some 4, .bsl 1 [.str ⟨#[]⟩, .str ⟨#[]⟩, .str ⟨#[]⟩, .str ⟨#[]⟩, .str ⟨#[]⟩] 5 [(0, (.c (.v false (.str ⟨#[110, 111, 110, 101]⟩)))), (1, (.c (.v false (.str ⟨#[112, 117, 116]⟩)))), (2, (.c (.v false (.str ⟨#[100, 114, 111, 112]⟩)))), (3, (.c (.v false (.str ⟨#[115, 99, 97, 110]⟩)))), (4, (.c (.v false (.str ⟨#[112, 97, 99, 107]⟩))))], none⟩,
    ⟨some 3, .mv (.t 4), none⟩] none)
  (.seq (.seq (.reg [0, 3, 10] [] [
      ⟨some 5, .mv (.t 0), none⟩,
      ⟨some 6, .mv (.t 3), none⟩,
      ⟨some 7, .len (.t 6), none⟩,
      ⟨some 8, .bin .sub (.t 7) (.c (.v false (.int .i64 1))), none⟩,
      ⟨some 9, .call 377 [] [(.t 5), (.c (.v false (.int .i64 0))), (.t 8)], none⟩,
      ⟨some 10, .un .not (.t 9), none⟩] none)
    (.cond (.t 10) (.seq (.reg [2] [] [
        ⟨some 2, .mv (.c (.v false (.str ⟨#[]⟩))), none⟩] none)
      (.ret))
     (.skip)))
   (.seq (.reg [2, 3] [] [
      ⟨some 11, .mv (.t 3), none⟩,
      ⟨some 12, .mv (.t 0), none⟩,
      ⟨some 13, .iad 1 (.t 11) (.t 12), none⟩,
      ⟨some 14, .ld false 1 (.t 13), none⟩,
      ⟨some 2, .mv (.t 14), none⟩] none)
    (.ret))))

def pf315 : PF := ⟨[.s 2], [], pb315⟩

-- loop.example/g00496/spec.PredOk
def pb320 : PC :=
.seq (.reg [0, 3] [] [
   ⟨some 3, .box 7 (.t 1), none⟩,
   ⟨some 4, .mv (.c (.v false (.bool false))), none⟩] none)
 (.seq (.reg [4, 10] [(6, 4)] [
    ⟨some 5, .mv (.t 0), none⟩,
    ⟨some 6, .call 268 [] [(.t 5)], none⟩,
    ⟨some 7, .mv (.t 6), none⟩,
    ⟨some 8, .mv (.t 0), some (7, true)⟩,
    ⟨some 9, .ld true 7 (.t 3), some (7, true)⟩,
    ⟨some 10, .call 350 [] [(.t 8), (.t 9), (.c (.v false (.int .i64 1)))], some (7, true)⟩,
    ⟨some 11, .pick (.t 7) (.t 10) (.c (.v false (.bool false))), none⟩,
    ⟨some 12, .mv (.t 11), none⟩,
    ⟨some 13, .ld true 7 (.t 3), some (12, true)⟩,
    ⟨some 14, .call 349 [] [(.t 13)], some (12, true)⟩,
    ⟨some 15, .bin .leq (.t 14) (.c (.v false (.int .i64 8))), some (12, true)⟩,
    ⟨some 16, .pick (.t 12) (.t 15) (.c (.v false (.bool false))), none⟩,
    ⟨some 4, .mv (.t 16), none⟩] none)
  (.ret))

def pf320 : PF := ⟨[.s 4], [], pb320⟩

-- loop.example/g00496/spec.TaskOk
def pl339_0 : PC :=
.seq (.seq (.reg [1, 2, 5, 70] [] [
          ⟨some 66, .mv (.t 5), none⟩,
          ⟨some 67, .fad (.t 2) 17, none⟩,
          ⟨some 68, .ld false 1 (.t 67), none⟩,
          ⟨some 69, .len (.t 68), none⟩,
          ⟨some 70, .bin .lss (.t 66) (.t 69), none⟩] none)
        (.cond (.t 70) (.skip)
         (.exit 0)))
       (.seq (.blk 1 (.seq (.reg [1, 2, 5, 88] [] [
            ⟨some 73, .fad (.t 2) 17, none⟩,
            ⟨some 74, .ld false 1 (.t 73), none⟩,
            ⟨some 75, .mv (.t 5), none⟩,
            ⟨some 76, .iad 5 (.t 74) (.t 75), none⟩,
            ⟨some 77, .ld true 5 (.t 76), none⟩,
            ⟨some 78, .call 370 [] [(.t 77)], none⟩,
            ⟨some 79, .un .not (.t 78), none⟩,
            ⟨some 80, .mv (.t 79), none⟩,
            ⟨some 81, .fad (.t 2) 17, some (80, false)⟩,
            ⟨some 82, .ld false 1 (.t 81), some (80, false)⟩,
            ⟨some 83, .mv (.t 5), some (80, false)⟩,
            ⟨some 84, .iad 5 (.t 82) (.t 83), some (80, false)⟩,
            ⟨some 85, .fad (.t 84) 3, some (80, false)⟩,
            ⟨some 86, .ld false 1 (.t 85), some (80, false)⟩,
            ⟨some 87, .bin .lss (.t 86) (.c (.v false (.int .i64 0))), some (80, false)⟩,
            ⟨some 88, .pick (.t 80) (.c (.v false (.bool true))) (.t 87), none⟩] none)
          (.cond (.t 88) (.seq (.reg [4] [] [
              ⟨some 4, .mv (.c (.v false (.bool false))), none⟩] none)
            (.ret))
           (.skip))))
        (.reg [1, 2, 5] [] [
          ⟨some 71, .mv (.t 5), none⟩,
          ⟨some 72, .bin .add (.t 71) (.c (.v false (.int .i64 1))), none⟩,
          ⟨some 5, .mv (.t 72), none⟩] none))

def pb339 : PC :=
.seq (.reg [1, 2] [] [
   ⟨some 2, .box 25 (.t 0), none⟩,
   ⟨some 4, .mv (.c (.v false (.bool false))), none⟩] none)
 (.seq (.seq (.reg [1, 2, 65] [] [
     ⟨some 6, .mv (.t 1), none⟩,
     ⟨some 7, .call 377 [] [(.t 6), (.c (.v false (.int .i64 0))), (.c (.v false (.int .i64 4)))], none⟩,
     ⟨some 8, .un .not (.t 7), none⟩,
     ⟨some 9, .mv (.t 8), none⟩,
     ⟨some 10, .fad (.t 2) 1, some (9, false)⟩,
     ⟨some 11, .ld false 1 (.t 10), some (9, false)⟩,
     ⟨some 12, .call 377 [] [(.t 11), (.c (.v false (.int .i64 0))), (.c (.v false (.int .i64 9)))], some (9, false)⟩,
     ⟨some 13, .un .not (.t 12), some (9, false)⟩,
     ⟨some 14, .pick (.t 9) (.c (.v false (.bool true))) (.t 13), none⟩,
     ⟨some 15, .mv (.t 14), none⟩,
     ⟨some 16, .fad (.t 2) 2, some (15, false)⟩,
     ⟨some 17, .ld false 1 (.t 16), some (15, false)⟩,
     ⟨some 18, .bin .lss (.t 17) (.c (.v false (.int .i64 0))), some (15, false)⟩,
     ⟨some 19, .pick (.t 15) (.c (.v false (.bool true))) (.t 18), none⟩,
     ⟨some 20, .mv (.t 19), none⟩,
     ⟨some 21, .fad (.t 2) 4, some (20, false)⟩,
     ⟨some 22, .ld false 1 (.t 21), some (20, false)⟩,
     ⟨some 23, .bin .lss (.t 22) (.c (.v false (.int .i64 0))), some (20, false)⟩,
     ⟨some 24, .pick (.t 20) (.c (.v false (.bool true))) (.t 23), none⟩,
     ⟨some 25, .mv (.t 24), none⟩,
     ⟨some 26, .fad (.t 2) 15, some (25, false)⟩,
     ⟨some 27, .ld false 1 (.t 26), some (25, false)⟩,
     ⟨some 28, .bin .lss (.t 27) (.c (.v false (.int .i64 0))), some (25, false)⟩,
     ⟨some 29, .pick (.t 25) (.c (.v false (.bool true))) (.t 28), none⟩,
     ⟨some 30, .mv (.t 29), none⟩,
     ⟨some 31, .fad (.t 2) 16, some (30, false)⟩,
     ⟨some 32, .ld false 1 (.t 31), some (30, false)⟩,
     ⟨some 33, .bin .lss (.t 32) (.c (.v false (.int .i64 0))), some (30, false)⟩,
     ⟨some 34, .pick (.t 30) (.c (.v false (.bool true))) (.t 33), none⟩,
     ⟨some 35, .mv (.t 34), none⟩,
     ⟨some 36, .fad (.t 2) 18, some (35, false)⟩,
     ⟨some 37, .ld false 1 (.t 36), some (35, false)⟩,
     ⟨some 38, .bin .lss (.t 37) (.c (.v false (.int .i64 0))), some (35, false)⟩,
     ⟨some 39, .pick (.t 35) (.c (.v false (.bool true))) (.t 38), none⟩,
     ⟨some 40, .mv (.t 39), none⟩,
     ⟨some 41, .fad (.t 2) 19, some (40, false)⟩,
     ⟨some 42, .ld false 1 (.t 41), some (40, false)⟩,
     ⟨some 43, .bin .lss (.t 42) (.c (.v false (.int .i64 0))), some (40, false)⟩,
     ⟨some 44, .pick (.t 40) (.c (.v false (.bool true))) (.t 43), none⟩,
     ⟨some 45, .mv (.t 44), none⟩,
     ⟨some 46, .fad (.t 2) 20, some (45, false)⟩,
     ⟨some 47, .ld false 1 (.t 46), some (45, false)⟩,
     ⟨some 48, .bin .lss (.t 47) (.c (.v false (.int .i64 0))), some (45, false)⟩,
     ⟨some 49, .pick (.t 45) (.c (.v false (.bool true))) (.t 48), none⟩,
     ⟨some 50, .mv (.t 49), none⟩,
     ⟨some 51, .fad (.t 2) 21, some (50, false)⟩,
     ⟨some 52, .ld false 1 (.t 51), some (50, false)⟩,
     ⟨some 53, .bin .lss (.t 52) (.c (.v false (.int .i64 0))), some (50, false)⟩,
     ⟨some 54, .pick (.t 50) (.c (.v false (.bool true))) (.t 53), none⟩,
     ⟨some 55, .mv (.t 54), none⟩,
     ⟨some 56, .fad (.t 2) 22, some (55, false)⟩,
     ⟨some 57, .ld false 1 (.t 56), some (55, false)⟩,
     ⟨some 58, .bin .lss (.t 57) (.c (.v false (.int .i64 0))), some (55, false)⟩,
     ⟨some 59, .pick (.t 55) (.c (.v false (.bool true))) (.t 58), none⟩,
     ⟨some 60, .mv (.t 59), none⟩,
     ⟨some 61, .fad (.t 2) 17, some (60, false)⟩,
     ⟨some 62, .ld false 1 (.t 61), some (60, false)⟩,
     ⟨some 63, .len (.t 62), some (60, false)⟩,
     ⟨some 64, .bin .gtr (.t 63) (.c (.v false (.int .i64 8))), some (60, false)⟩,
     ⟨some 65, .pick (.t 60) (.c (.v false (.bool true))) (.t 64), none⟩] none)
   (.cond (.t 65) (.seq (.reg [4] [] [
       ⟨some 4, .mv (.c (.v false (.bool false))), none⟩] none)
     (.ret))
    (.skip)))
  (.seq (.seq (.reg [1, 2, 5] [] [
      ⟨some 5, .mv (.c (.v false (.int .i64 0))), none⟩] none)
    (.blk 0 (.loop pl339_0)))
   (.seq (.seq (.reg [1, 2, 90] [] [
       ⟨some 89, .fad (.t 2) 0, none⟩,
       ⟨some 90, .ld false 1 (.t 89), none⟩] none)
     (.blk 2 (.seq (.reg [1, 2, 90, 91] [] [
         ⟨some 92, .bin .eql (.t 90) (.c (.v false (.int .i64 0))), none⟩,
         ⟨some 91, .mv (.t 92), none⟩] none)
       (.cond (.t 91) (.seq (.reg [4] [(94, 4)] [
           ⟨some 93, .ld true 25 (.t 2), none⟩,
           ⟨some 94, .call 372 [] [(.t 93)], none⟩,
           ⟨some 4, .mv (.t 94), none⟩] none)
         (.ret))
        (.seq (.seq (.reg [1, 2, 90, 95] [] [
            ⟨some 96, .bin .eql (.t 90) (.c (.v false (.int .i64 1))), none⟩,
            ⟨some 95, .mv (.t 96), none⟩] none)
          (.cond (.t 95) (.skip)
           (.reg [1, 2, 90, 95] [] [
             ⟨some 97, .bin .eql (.t 90) (.c (.v false (.int .i64 2))), none⟩,
             ⟨some 95, .mv (.t 97), none⟩] none)))
         (.cond (.t 95) (.seq (.reg [4] [] [
             ⟨some 98, .mv (.t 1), none⟩,
             ⟨some 99, .bin .lss (.t 98) (.c (.v false (.int .i64 3))), none⟩,
             ⟨some 4, .mv (.t 99), none⟩] none)
           (.ret))
          (.seq (.reg [1, 2, 100] [] [
             ⟨some 101, .bin .eql (.t 90) (.c (.v false (.int .i64 3))), none⟩,
             ⟨some 100, .mv (.t 101), none⟩] none)
           (.cond (.t 100) (.seq (.reg [4] [] [
               ⟨some 102, .mv (.t 1), none⟩,
               ⟨some 103, .bin .lss (.t 102) (.c (.v false (.int .i64 3))), none⟩,
               ⟨some 104, .mv (.t 103), none⟩,
               ⟨some 105, .fad (.t 2) 4, some (104, true)⟩,
               ⟨some 106, .ld false 1 (.t 105), some (104, true)⟩,
               ⟨some 107, .bin .eql (.t 106) (.c (.v false (.int .i64 0))), some (104, true)⟩,
               ⟨some 108, .pick (.t 104) (.t 107) (.c (.v false (.bool false))), none⟩,
               ⟨some 4, .mv (.t 108), none⟩] none)
             (.ret))
            (.skip)))))))))
    (.seq (.reg [4] [] [
       ⟨some 109, .fad (.t 2) 0, none⟩,
       ⟨some 110, .ld false 1 (.t 109), none⟩,
       ⟨some 111, .bin .eql (.t 110) (.c (.v false (.int .i64 4))), none⟩,
       ⟨some 112, .mv (.t 111), none⟩,
       ⟨some 113, .mv (.t 1), some (112, true)⟩,
       ⟨some 114, .bin .geq (.t 113) (.c (.v false (.int .i64 3))), some (112, true)⟩,
       ⟨some 115, .pick (.t 112) (.t 114) (.c (.v false (.bool false))), none⟩,
       ⟨some 116, .mv (.t 115), none⟩,
       ⟨some 117, .fad (.t 2) 4, some (116, true)⟩,
       ⟨some 118, .ld false 1 (.t 117), some (116, true)⟩,
       ⟨some 119, .bin .eql (.t 118) (.c (.v false (.int .i64 0))), some (116, true)⟩,
       ⟨some 120, .pick (.t 116) (.t 119) (.c (.v false (.bool false))), none⟩,
       ⟨some 4, .mv (.t 120), none⟩] none)
     (.ret)))))

def pf339 : PF := ⟨[.s 4], [], pb339⟩

-- loop.example/g00496/spec.ValOk
def pl341_0 : PC :=
.seq (.seq (.reg [1, 3, 23] [] [
          ⟨some 15, .mv (.t 3), none⟩,
          ⟨some 16, .fad (.t 1) 2, none⟩,
          ⟨some 17, .ld false 1 (.t 16), none⟩,
          ⟨some 18, .lens (.t 17), none⟩,
          ⟨some 19, .bin .lss (.t 15) (.t 18), none⟩,
          ⟨some 20, .mv (.t 19), none⟩,
          ⟨some 21, .mv (.t 3), some (20, true)⟩,
          ⟨some 22, .bin .leq (.t 21) (.c (.v false (.int .i64 6))), some (20, true)⟩,
          ⟨some 23, .pick (.t 20) (.t 22) (.c (.v false (.bool false))), none⟩] none)
        (.cond (.t 23) (.skip)
         (.exit 0)))
       (.seq (.blk 1 (.seq (.reg [1, 3, 41] [] [
            ⟨some 26, .fad (.t 1) 2, none⟩,
            ⟨some 27, .ld false 1 (.t 26), none⟩,
            ⟨some 28, .mv (.t 3), none⟩,
            ⟨some 29, .idx (.t 27) (.t 28), none⟩,
            ⟨some 30, .cvi .i64 (.t 29), none⟩,
            ⟨some 31, .call 377 [] [(.t 30), (.c (.v false (.int .i64 97))), (.c (.v false (.int .i64 122)))], none⟩,
            ⟨some 32, .un .not (.t 31), none⟩,
            ⟨some 33, .mv (.t 32), none⟩,
            ⟨some 34, .fad (.t 1) 2, some (33, true)⟩,
            ⟨some 35, .ld false 1 (.t 34), some (33, true)⟩,
            ⟨some 36, .mv (.t 3), some (33, true)⟩,
            ⟨some 37, .idx (.t 35) (.t 36), some (33, true)⟩,
            ⟨some 38, .cvi .i64 (.t 37), some (33, true)⟩,
            ⟨some 39, .call 377 [] [(.t 38), (.c (.v false (.int .i64 48))), (.c (.v false (.int .i64 57)))], some (33, true)⟩,
            ⟨some 40, .un .not (.t 39), some (33, true)⟩,
            ⟨some 41, .pick (.t 33) (.t 40) (.c (.v false (.bool false))), none⟩] none)
          (.cond (.t 41) (.seq (.reg [2] [] [
              ⟨some 2, .mv (.c (.v false (.bool false))), none⟩] none)
            (.ret))
           (.skip))))
        (.reg [1, 3] [] [
          ⟨some 24, .mv (.t 3), none⟩,
          ⟨some 25, .bin .add (.t 24) (.c (.v false (.int .i64 1))), none⟩,
          ⟨some 3, .mv (.t 25), none⟩] none))

def pb341 : PC :=
.seq (.reg [1] [] [
   ⟨some 1, .box 3 (.t 0), none⟩,
   ⟨some 2, .mv (.c (.v false (.bool false))), none⟩] none)
 (.seq (.seq (.reg [1, 6] [] [
     ⟨some 4, .fad (.t 1) 0, none⟩,
     ⟨some 5, .ld false 1 (.t 4), none⟩,
     ⟨some 6, .bin .eql (.t 5) (.c (.v false (.int .i64 1))), none⟩] none)
   (.cond (.t 6) (.seq (.reg [2] [(9, 2)] [
       ⟨some 7, .fad (.t 1) 1, none⟩,
       ⟨some 8, .ld false 1 (.t 7), none⟩,
       ⟨some 9, .call 384 [] [(.t 8)], none⟩,
       ⟨some 10, .mv (.t 9), none⟩,
       ⟨some 11, .fad (.t 1) 2, some (10, true)⟩,
       ⟨some 12, .ld false 1 (.t 11), some (10, true)⟩,
       ⟨some 13, .bin .eql (.t 12) (.c (.v false (.str ⟨#[]⟩))), some (10, true)⟩,
       ⟨some 14, .pick (.t 10) (.t 13) (.c (.v false (.bool false))), none⟩,
       ⟨some 2, .mv (.t 14), none⟩] none)
     (.ret))
    (.skip)))
  (.seq (.seq (.reg [1, 3] [] [
      ⟨some 3, .mv (.c (.v false (.int .i64 0))), none⟩] none)
    (.blk 0 (.loop pl341_0)))
   (.seq (.reg [2] [] [
      ⟨some 42, .fad (.t 1) 0, none⟩,
      ⟨some 43, .ld false 1 (.t 42), none⟩,
      ⟨some 44, .bin .eql (.t 43) (.c (.v false (.int .i64 2))), none⟩,
      ⟨some 45, .mv (.t 44), none⟩,
      ⟨some 46, .fad (.t 1) 1, some (45, true)⟩,
      ⟨some 47, .ld false 1 (.t 46), some (45, true)⟩,
      ⟨some 48, .bin .eql (.t 47) (.c (.v false (.int .i64 0))), some (45, true)⟩,
      ⟨some 49, .pick (.t 45) (.t 48) (.c (.v false (.bool false))), none⟩,
      ⟨some 50, .mv (.t 49), none⟩,
      ⟨some 51, .fad (.t 1) 2, some (50, true)⟩,
      ⟨some 52, .ld false 1 (.t 51), some (50, true)⟩,
      ⟨some 53, .lens (.t 52), some (50, true)⟩,
      ⟨some 54, .bin .leq (.t 53) (.c (.v false (.int .i64 6))), some (50, true)⟩,
      ⟨some 55, .pick (.t 50) (.t 54) (.c (.v false (.bool false))), none⟩,
      ⟨some 2, .mv (.t 55), none⟩] none)
    (.ret))))

def pf341 : PF := ⟨[.s 2], [], pb341⟩

-- loop.example/g00496/spec.l11Cmp1
def pb348 : PC :=
.seq (.reg [0, 1, 4] [] [
   ⟨some 4, .alloc [(.v false (.int .i64 0)), (.v false (.int .i64 0)), (.v false (.int .i64 0)), (.v false (.int .i64 0)), (.v false (.int .i64 0)), (.v false (.str ⟨#[]⟩)), (.nl 7)], none⟩] none)
 (.seq (.reg [0, 1, 4, 5] [(10, 5)] [
    ⟨some 7, .mv (.t 0), none⟩,
    ⟨some 8, .mv (.t 1), none⟩,
    ⟨some 9, .len (.t 8), none⟩,
    ⟨some 10, .call 375 [0] [(.t 7), (.t 9)], none⟩,
    ⟨some 5, .mv (.t 10), none⟩] none)
  (.seq (.reg [0, 1, 4, 5, 6] [] [
     ⟨some 11, .mv (.t 0), none⟩,
     ⟨some 12, .call 395 [0] [(.t 11)], none⟩,
     ⟨some 6, .alloc [(.v false (.int .i64 0)), (.v false (.int .i64 0)), (.v false (.str ⟨#[]⟩))], none⟩,
     ⟨none, .st 3 (.t 6) (.t 12), none⟩] none)
   (.seq (.seq (.reg [0, 4, 5, 6, 17] [] [
       ⟨some 13, .mv (.t 1), none⟩,
       ⟨some 14, .mv (.t 5), none⟩,
       ⟨some 15, .iad 1 (.t 13) (.t 14), none⟩,
       ⟨some 16, .ld false 1 (.t 15), none⟩,
       ⟨some 17, .bin .eql (.t 16) (.c (.v false (.int .i64 2))), none⟩] none)
     (.cond (.t 17) (.reg [0, 4, 5, 6] [] [
        ⟨some 18, .mv (.t 0), none⟩,
        ⟨some 19, .call 396 [0] [(.t 18)], none⟩,
        ⟨none, .st 3 (.t 6) (.t 19), none⟩] none)
      (.skip)))
    (.seq (.reg [0, 4] [] [
       ⟨some 20, .mv (.t 5), none⟩,
       ⟨some 21, .mv (.t 0), none⟩,
       ⟨some 22, .call 375 [0] [(.t 21), (.c (.v false (.int .i64 6)))], none⟩,
       ⟨some 23, .bin .add (.c (.v false (.int .i64 1))) (.t 22), none⟩,
       ⟨some 24, .ld true 3 (.t 6), none⟩,
       ⟨some 25, .build [(.v false (.int .i64 0)), (.v false (.int .i64 0)), (.v false (.int .i64 0)), (.v false (.int .i64 0)), (.v false (.int .i64 0)), (.v false (.str ⟨#[]⟩)), (.nl 7)] [(0, 1, (.c (.v false (.int .i64 2)))), (1, 1, (.t 20)), (2, 1, (.t 23)), (3, 3, (.t 24))], none⟩,
       ⟨none, .st 7 (.t 4) (.t 25), none⟩] (some [(2, 4)]))
     (.ret)))))

def pf348 : PF := ⟨[.b 4 7 true], [0], pb348⟩

-- loop.example/g00496/spec.l11Count
def pl349_0 : PC :=
.seq (.seq (.reg [1, 3, 4, 9] [] [
          ⟨some 5, .mv (.t 4), none⟩,
          ⟨some 6, .fad (.t 1) 6, none⟩,
          ⟨some 7, .ld false 1 (.t 6), none⟩,
          ⟨some 8, .len (.t 7), none⟩,
          ⟨some 9, .bin .lss (.t 5) (.t 8), none⟩] none)
        (.cond (.t 9) (.skip)
         (.exit 0)))
       (.seq (.blk 1 (.reg [1, 3, 4] [] [
           ⟨some 12, .mv (.t 3), none⟩,
           ⟨some 13, .fad (.t 1) 6, none⟩,
           ⟨some 14, .ld false 1 (.t 13), none⟩,
           ⟨some 15, .mv (.t 4), none⟩,
           ⟨some 16, .iad 7 (.t 14) (.t 15), none⟩,
           ⟨some 17, .ld true 7 (.t 16), none⟩,
           ⟨some 18, .call 349 [] [(.t 17)], none⟩,
           ⟨some 19, .bin .add (.t 12) (.t 18), none⟩,
           ⟨some 3, .mv (.t 19), none⟩] none))
        (.reg [1, 3, 4] [] [
          ⟨some 10, .mv (.t 4), none⟩,
          ⟨some 11, .bin .add (.t 10) (.c (.v false (.int .i64 1))), none⟩,
          ⟨some 4, .mv (.t 11), none⟩] none))

def pb349 : PC :=
.seq (.reg [1] [] [
   ⟨some 1, .box 7 (.t 0), none⟩,
   ⟨some 2, .mv (.c (.v false (.int .i64 0))), none⟩] none)
 (.seq (.reg [1, 3] [] [
    ⟨some 3, .mv (.c (.v false (.int .i64 1))), none⟩] none)
  (.seq (.seq (.reg [1, 3, 4] [] [
      ⟨some 4, .mv (.c (.v false (.int .i64 0))), none⟩] none)
    (.blk 0 (.loop pl349_0)))
   (.seq (.reg [2] [] [
      ⟨some 20, .mv (.t 3), none⟩,
      ⟨some 2, .mv (.t 20), none⟩] none)
    (.ret))))

def pf349 : PF := ⟨[.s 2], [], pb349⟩

-- loop.example/g00496/spec.l11Deep
def pl350_0 : PC :=
.seq (.seq (.reg [0, 2, 4, 7, 15] [] [
          ⟨some 11, .mv (.t 7), none⟩,
          ⟨some 12, .fad (.t 4) 6, none⟩,
          ⟨some 13, .ld false 1 (.t 12), none⟩,
          ⟨some 14, .len (.t 13), none⟩,
          ⟨some 15, .bin .lss (.t 11) (.t 14), none⟩] none)
        (.cond (.t 15) (.skip)
         (.exit 0)))
       (.seq (.blk 1 (.seq (.reg [0, 2, 4, 7, 27] [] [
            ⟨some 18, .mv (.t 0), none⟩,
            ⟨some 19, .fad (.t 4) 6, none⟩,
            ⟨some 20, .ld false 1 (.t 19), none⟩,
            ⟨some 21, .mv (.t 7), none⟩,
            ⟨some 22, .iad 7 (.t 20) (.t 21), none⟩,
            ⟨some 23, .ld true 7 (.t 22), none⟩,
            ⟨some 24, .mv (.t 2), none⟩,
            ⟨some 25, .bin .add (.t 24) (.c (.v false (.int .i64 1))), none⟩,
            ⟨some 26, .call 350 [] [(.t 18), (.t 23), (.t 25)], none⟩,
            ⟨some 27, .un .not (.t 26), none⟩] none)
          (.cond (.t 27) (.seq (.reg [6] [] [
              ⟨some 6, .mv (.c (.v false (.bool false))), none⟩] none)
            (.ret))
           (.skip))))
        (.reg [0, 2, 4, 7] [] [
          ⟨some 16, .mv (.t 7), none⟩,
          ⟨some 17, .bin .add (.t 16) (.c (.v false (.int .i64 1))), none⟩,
          ⟨some 7, .mv (.t 17), none⟩] none))

def pb350 : PC :=
.seq (.reg [0, 2, 4] [] [
   ⟨some 4, .box 7 (.t 1), none⟩,
   ⟨some 6, .mv (.c (.v false (.bool false))), none⟩] none)
 (.seq (.seq (.reg [0, 2, 4, 10] [] [
     ⟨some 9, .mv (.t 2), none⟩,
     ⟨some 10, .bin .gtr (.t 9) (.c (.v false (.int .i64 4))), none⟩] none)
   (.cond (.t 10) (.seq (.reg [6] [] [
       ⟨some 6, .mv (.c (.v false (.bool false))), none⟩] none)
     (.ret))
    (.skip)))
  (.seq (.seq (.reg [0, 2, 4, 7] [] [
      ⟨some 7, .mv (.c (.v false (.int .i64 0))), none⟩] none)
    (.blk 0 (.loop pl350_0)))
   (.seq (.reg [0, 4, 8] [] [
      ⟨some 28, .fad (.t 4) 1, none⟩,
      ⟨some 29, .ld false 1 (.t 28), none⟩,
      ⟨some 30, .bin .eql (.t 29) (.c (.v false (.int .i64 0))), none⟩,
      ⟨some 31, .mv (.t 30), none⟩,
      ⟨some 32, .fad (.t 4) 2, some (31, true)⟩,
      ⟨some 33, .ld false 1 (.t 32), some (31, true)⟩,
      ⟨some 34, .bin .eql (.t 33) (.c (.v false (.int .i64 0))), some (31, true)⟩,
      ⟨some 35, .pick (.t 31) (.t 34) (.c (.v false (.bool false))), none⟩,
      ⟨some 36, .mv (.t 35), none⟩,
      ⟨some 37, .fad (.t 4) 3, some (36, true)⟩,
      ⟨some 38, .ld true 3 (.t 37), some (36, true)⟩,
      ⟨some 39, .build [(.v false (.int .i64 0)), (.v false (.int .i64 0)), (.v false (.str ⟨#[]⟩))] [], some (36, true)⟩,
      ⟨some 40, .eqs false [0, 0, 2] (.t 38) (.t 39), some (36, true)⟩,
      ⟨some 41, .pick (.t 36) (.t 40) (.c (.v false (.bool false))), none⟩,
      ⟨some 8, .mv (.t 41), none⟩] none)
    (.seq (.seq (.reg [0, 4, 8, 43] [] [
        ⟨some 42, .fad (.t 4) 0, none⟩,
        ⟨some 43, .ld false 1 (.t 42), none⟩] none)
      (.blk 2 (.seq (.reg [0, 4, 8, 43, 44] [] [
          ⟨some 45, .bin .eql (.t 43) (.c (.v false (.int .i64 1))), none⟩,
          ⟨some 44, .mv (.t 45), none⟩] none)
        (.cond (.t 44) (.seq (.reg [6] [] [
            ⟨some 46, .mv (.t 8), none⟩,
            ⟨some 47, .mv (.t 46), none⟩,
            ⟨some 48, .fad (.t 4) 6, some (47, true)⟩,
            ⟨some 49, .ld false 1 (.t 48), some (47, true)⟩,
            ⟨some 50, .len (.t 49), some (47, true)⟩,
            ⟨some 51, .bin .eql (.t 50) (.c (.v false (.int .i64 0))), some (47, true)⟩,
            ⟨some 52, .pick (.t 47) (.t 51) (.c (.v false (.bool false))), none⟩,
            ⟨some 6, .mv (.t 52), none⟩] none)
          (.ret))
         (.seq (.reg [0, 4, 8, 43, 53] [] [
            ⟨some 54, .bin .eql (.t 43) (.c (.v false (.int .i64 2))), none⟩,
            ⟨some 53, .mv (.t 54), none⟩] none)
          (.cond (.t 53) (.seq (.reg [6, 64, 80] [(60, 6)] [
              ⟨some 55, .fad (.t 4) 1, none⟩,
              ⟨some 56, .ld false 1 (.t 55), none⟩,
              ⟨some 57, .mv (.t 0), none⟩,
              ⟨some 58, .len (.t 57), none⟩,
              ⟨some 59, .bin .sub (.t 58) (.c (.v false (.int .i64 1))), none⟩,
              ⟨some 60, .call 377 [] [(.t 56), (.c (.v false (.int .i64 0))), (.t 59)], none⟩,
              ⟨some 61, .mv (.t 60), none⟩,
              ⟨some 62, .fad (.t 4) 3, some (61, true)⟩,
              ⟨some 63, .ld true 3 (.t 62), some (61, true)⟩,
              ⟨some 64, .call 341 [] [(.t 63)], some (61, true)⟩,
              ⟨some 65, .pick (.t 61) (.t 64) (.c (.v false (.bool false))), none⟩,
              ⟨some 66, .mv (.t 65), none⟩,
              ⟨some 67, .fad (.t 4) 3, some (66, true)⟩,
              ⟨some 68, .fad (.t 67) 0, some (66, true)⟩,
              ⟨some 69, .ld false 1 (.t 68), some (66, true)⟩,
              ⟨some 70, .mv (.t 0), some (66, true)⟩,
              ⟨some 71, .fad (.t 4) 1, some (66, true)⟩,
              ⟨some 72, .ld false 1 (.t 71), some (66, true)⟩,
              ⟨some 73, .iad 1 (.t 70) (.t 72), some (66, true)⟩,
              ⟨some 74, .ld false 1 (.t 73), some (66, true)⟩,
              ⟨some 75, .bin .eql (.t 69) (.t 74), some (66, true)⟩,
              ⟨some 76, .pick (.t 66) (.t 75) (.c (.v false (.bool false))), none⟩,
              ⟨some 77, .mv (.t 76), none⟩,
              ⟨some 78, .fad (.t 4) 2, some (77, true)⟩,
              ⟨some 79, .ld false 1 (.t 78), some (77, true)⟩,
              ⟨some 80, .call 377 [] [(.t 79), (.c (.v false (.int .i64 1))), (.c (.v false (.int .i64 6)))], some (77, true)⟩,
              ⟨some 81, .pick (.t 77) (.t 80) (.c (.v false (.bool false))), none⟩,
              ⟨some 82, .mv (.t 81), none⟩,
              ⟨some 83, .fad (.t 4) 6, some (82, true)⟩,
              ⟨some 84, .ld false 1 (.t 83), some (82, true)⟩,
              ⟨some 85, .len (.t 84), some (82, true)⟩,
              ⟨some 86, .bin .eql (.t 85) (.c (.v false (.int .i64 0))), some (82, true)⟩,
              ⟨some 87, .pick (.t 82) (.t 86) (.c (.v false (.bool false))), none⟩,
              ⟨some 6, .mv (.t 87), none⟩] (some []))
            (.ret))
           (.seq (.seq (.reg [4, 8, 43, 88] [] [
               ⟨some 89, .bin .eql (.t 43) (.c (.v false (.int .i64 3))), none⟩,
               ⟨some 88, .mv (.t 89), none⟩] none)
             (.cond (.t 88) (.skip)
              (.reg [4, 8, 88] [] [
                ⟨some 90, .bin .eql (.t 43) (.c (.v false (.int .i64 4))), none⟩,
                ⟨some 88, .mv (.t 90), none⟩] none)))
            (.cond (.t 88) (.seq (.reg [6] [(96, 6)] [
                ⟨some 91, .mv (.t 8), none⟩,
                ⟨some 92, .mv (.t 91), none⟩,
                ⟨some 93, .fad (.t 4) 6, some (92, true)⟩,
                ⟨some 94, .ld false 1 (.t 93), some (92, true)⟩,
                ⟨some 95, .len (.t 94), some (92, true)⟩,
                ⟨some 96, .call 377 [] [(.t 95), (.c (.v false (.int .i64 1))), (.c (.v false (.int .i64 4)))], some (92, true)⟩,
                ⟨some 97, .pick (.t 92) (.t 96) (.c (.v false (.bool false))), none⟩,
                ⟨some 6, .mv (.t 97), none⟩] none)
              (.ret))
             (.skip)))))))))
     (.seq (.reg [6] [] [
        ⟨some 98, .fad (.t 4) 0, none⟩,
        ⟨some 99, .ld false 1 (.t 98), none⟩,
        ⟨some 100, .bin .eql (.t 99) (.c (.v false (.int .i64 5))), none⟩,
        ⟨some 101, .mv (.t 100), none⟩,
        ⟨some 102, .mv (.t 8), some (101, true)⟩,
        ⟨some 103, .pick (.t 101) (.t 102) (.c (.v false (.bool false))), none⟩,
        ⟨some 104, .mv (.t 103), none⟩,
        ⟨some 105, .fad (.t 4) 6, some (104, true)⟩,
        ⟨some 106, .ld false 1 (.t 105), some (104, true)⟩,
        ⟨some 107, .len (.t 106), some (104, true)⟩,
        ⟨some 108, .bin .eql (.t 107) (.c (.v false (.int .i64 1))), some (104, true)⟩,
        ⟨some 109, .pick (.t 104) (.t 108) (.c (.v false (.bool false))), none⟩,
        ⟨some 6, .mv (.t 109), none⟩] none)
      (.ret))))))

def pf350 : PF := ⟨[.s 6], [], pb350⟩

-- loop.example/g00496/spec.l11Draw
def pl351_0 : PC :=
.seq (.seq (.reg [0, 1, 2, 6, 7, 8, 9, 31] [] [
            ⟨some 30, .mv (.t 9), none⟩,
            ⟨some 31, .bin .gtr (.t 30) (.c (.v false (.int .i64 0))), none⟩] none)
          (.cond (.t 31) (.skip)
           (.exit 0)))
         (.seq (.blk 1 (.seq (.reg [0, 1, 2, 6, 7, 8, 9, 10] [] [
              ⟨some 34, .mv (.t 0), none⟩,
              ⟨some 35, .mv (.t 1), none⟩,
              ⟨some 36, .mv (.t 2), none⟩,
              ⟨some 37, .bin .sub (.t 36) (.c (.v false (.int .i64 1))), none⟩,
              ⟨some 38, .call 351 [0] [(.t 34), (.t 35), (.t 37)], none⟩,
              ⟨some 10, .alloc [(.v false (.int .i64 0)), (.v false (.int .i64 0)), (.v false (.int .i64 0)), (.v false (.int .i64 0)), (.v false (.int .i64 0)), (.v false (.str ⟨#[]⟩)), (.nl 7)], none⟩,
              ⟨none, .st 7 (.t 10) (.t 38), none⟩] none)
            (.reg [0, 1, 2, 6, 7, 8, 9] [(42, 8)] [
              ⟨some 39, .mv (.t 8), none⟩,
              ⟨some 40, .ld true 7 (.t 10), none⟩,
              ⟨some 41, .bsl 7 [.int .i64 0, .int .i64 0, .int .i64 0, .int .i64 0, .int .i64 0, .str ⟨#[]⟩, .sl 7 []] 1 [(0, (.t 40))], none⟩,
              ⟨some 42, .app 7 80 (.t 39) (.t 41), none⟩,
              ⟨some 8, .mv (.t 42), none⟩] none)))
          (.reg [0, 1, 2, 6, 7, 8, 9] [] [
            ⟨some 32, .mv (.t 9), none⟩,
            ⟨some 33, .bin .sub (.t 32) (.c (.v false (.int .i64 1))), none⟩,
            ⟨some 9, .mv (.t 33), none⟩] none))

def pb351 : PC :=
.seq (.reg [0, 1, 2, 6] [] [
   ⟨some 6, .alloc [(.v false (.int .i64 0)), (.v false (.int .i64 0)), (.v false (.int .i64 0)), (.v false (.int .i64 0)), (.v false (.int .i64 0)), (.v false (.str ⟨#[]⟩)), (.nl 7)], none⟩] none)
 (.seq (.seq (.reg [0, 1, 2, 6, 16] [(15, 16)] [
     ⟨some 11, .mv (.t 2), none⟩,
     ⟨some 12, .bin .eql (.t 11) (.c (.v false (.int .i64 0))), none⟩,
     ⟨some 13, .mv (.t 12), none⟩,
     ⟨some 14, .mv (.t 0), some (13, false)⟩,
     ⟨some 15, .call 382 [0] [(.t 14), (.c (.v false (.int .i64 3)))], some (13, false)⟩,
     ⟨some 16, .pick (.t 13) (.c (.v false (.bool true))) (.t 15), none⟩] none)
   (.cond (.t 16) (.seq (.seq (.reg [0, 1, 6, 18] [] [
        ⟨some 17, .mv (.t 0), none⟩,
        ⟨some 18, .call 382 [0] [(.t 17), (.c (.v false (.int .i64 5)))], none⟩] none)
      (.cond (.t 18) (.seq (.reg [0, 6] [] [
          ⟨some 19, .build [(.v false (.int .i64 0)), (.v false (.int .i64 0)), (.v false (.int .i64 0)), (.v false (.int .i64 0)), (.v false (.int .i64 0)), (.v false (.str ⟨#[]⟩)), (.nl 7)] [(0, 1, (.c (.v false (.int .i64 1))))], none⟩,
          ⟨none, .st 7 (.t 6) (.t 19), none⟩] none)
        (.ret))
       (.skip)))
     (.seq (.reg [0, 6] [] [
        ⟨some 20, .mv (.t 0), none⟩,
        ⟨some 21, .mv (.t 1), none⟩,
        ⟨some 22, .call 348 [0] [(.t 20), (.t 21)], none⟩,
        ⟨none, .st 7 (.t 6) (.t 22), none⟩] none)
      (.ret)))
    (.skip)))
  (.seq (.reg [0, 1, 2, 6, 7] [] [
     ⟨some 23, .mv (.t 0), none⟩,
     ⟨some 24, .call 375 [0] [(.t 23), (.c (.v false (.int .i64 3)))], none⟩,
     ⟨some 25, .bin .add (.c (.v false (.int .i64 3))) (.t 24), none⟩,
     ⟨some 7, .mv (.t 25), none⟩] none)
   (.seq (.reg [0, 1, 2, 6, 7, 8] [(26, 8)] [
      ⟨some 26, .bsl 7 [] 0 [], none⟩,
      ⟨some 8, .mv (.t 26), none⟩] none)
    (.seq (.seq (.reg [0, 1, 2, 6, 7, 8, 9] [] [
        ⟨some 27, .mv (.t 0), none⟩,
        ⟨some 28, .call 375 [0] [(.t 27), (.c (.v false (.int .i64 2)))], none⟩,
        ⟨some 29, .bin .add (.c (.v false (.int .i64 1))) (.t 28), none⟩,
        ⟨some 9, .mv (.t 29), none⟩] none)
      (.blk 0 (.loop pl351_0)))
     (.seq (.seq (.reg [0, 6, 7, 8, 44] [] [
         ⟨some 43, .mv (.t 7), none⟩,
         ⟨some 44, .bin .eql (.t 43) (.c (.v false (.int .i64 5))), none⟩] none)
       (.cond (.t 44) (.reg [0, 6, 7, 8] [] [
          ⟨some 45, .mv (.t 8), none⟩,
          ⟨some 46, .slc 7 (.t 45) none (some (.c (.v false (.int .i64 1)))), none⟩,
          ⟨some 8, .mv (.t 46), none⟩] none)
        (.skip)))
      (.seq (.reg [0, 6] [] [
         ⟨some 47, .mv (.t 7), none⟩,
         ⟨some 48, .mv (.t 8), none⟩,
         ⟨some 49, .build [(.v false (.int .i64 0)), (.v false (.int .i64 0)), (.v false (.int .i64 0)), (.v false (.int .i64 0)), (.v false (.int .i64 0)), (.v false (.str ⟨#[]⟩)), (.nl 7)] [(0, 1, (.t 47)), (6, 1, (.t 48))], none⟩,
         ⟨none, .st 7 (.t 6) (.t 49), none⟩] none)
       (.ret)))))))

def pf351 : PF := ⟨[.b 6 7 true], [0], pb351⟩

-- loop.example/g00496/spec.l11Right
def pb352 : PC :=
.seq (.reg [0, 1, 4] [] [
   ⟨some 4, .alloc [(.v false (.int .i64 0)), (.v false (.int .i64 0)), (.v false (.int .i64 0)), (.v false (.int .i64 0)), (.v false (.int .i64 0)), (.v false (.str ⟨#[]⟩)), (.nl 7)], none⟩] none)
 (.seq (.reg [0, 1, 4, 5] [] [
    ⟨some 6, .mv (.t 0), none⟩,
    ⟨some 7, .mv (.t 1), none⟩,
    ⟨some 8, .mv (.t 0), none⟩,
    ⟨some 9, .call 375 [0] [(.t 8), (.c (.v false (.int .i64 3)))], none⟩,
    ⟨some 10, .call 351 [0] [(.t 6), (.t 7), (.t 9)], none⟩,
    ⟨some 5, .alloc [(.v false (.int .i64 0)), (.v false (.int .i64 0)), (.v false (.int .i64 0)), (.v false (.int .i64 0)), (.v false (.int .i64 0)), (.v false (.str ⟨#[]⟩)), (.nl 7)], none⟩,
    ⟨none, .st 7 (.t 5) (.t 10), none⟩] none)
  (.seq (.seq (.reg [0, 1, 4, 5, 13] [] [
      ⟨some 11, .mv (.t 1), none⟩,
      ⟨some 12, .ld true 7 (.t 5), none⟩,
      ⟨some 13, .call 320 [] [(.t 11), (.t 12)], none⟩] none)
    (.cond (.t 13) (.seq (.reg [0, 4] [] [
        ⟨some 14, .ld true 7 (.t 5), none⟩,
        ⟨none, .st 7 (.t 4) (.t 14), none⟩] none)
      (.ret))
     (.skip)))
   (.seq (.reg [0, 4] [] [
      ⟨some 15, .mv (.t 0), none⟩,
      ⟨some 16, .mv (.t 1), none⟩,
      ⟨some 17, .call 348 [0] [(.t 15), (.t 16)], none⟩,
      ⟨none, .st 7 (.t 4) (.t 17), none⟩] none)
    (.ret))))

def pf352 : PF := ⟨[.b 4 7 true], [0], pb352⟩

-- loop.example/g00496/spec.l12Draw
def pl354_0 : PC :=
.seq (.seq (.reg [0, 1, 4, 5, 7, 8, 41] [] [
                  ⟨some 38, .mv (.t 8), none⟩,
                  ⟨some 39, .mv (.t 1), none⟩,
                  ⟨some 40, .len (.t 39), none⟩,
                  ⟨some 41, .bin .lss (.t 38) (.t 40), none⟩] none)
                (.cond (.t 41) (.skip)
                 (.exit 3)))
               (.seq (.blk 4 (.seq (.reg [0, 1, 4, 5, 7, 8, 48] [] [
                    ⟨some 44, .mv (.t 1), none⟩,
                    ⟨some 45, .mv (.t 8), none⟩,
                    ⟨some 46, .iad 1 (.t 44) (.t 45), none⟩,
                    ⟨some 47, .ld false 1 (.t 46), none⟩,
                    ⟨some 48, .bin .eql (.t 47) (.c (.v false (.int .i64 1))), none⟩] none)
                  (.cond (.t 48) (.reg [0, 1, 4, 5, 7, 8] [] [
                     ⟨some 49, .mv (.t 8), none⟩,
                     ⟨some 7, .mv (.t 49), none⟩] none)
                   (.skip))))
                (.reg [0, 1, 4, 5, 7, 8] [] [
                  ⟨some 42, .mv (.t 8), none⟩,
                  ⟨some 43, .bin .add (.t 42) (.c (.v false (.int .i64 1))), none⟩,
                  ⟨some 8, .mv (.t 43), none⟩] none))

def pl354_1 : PC :=
.seq (.seq (.reg [0, 1, 4, 5, 6, 24] [] [
              ⟨some 23, .mv (.t 6), none⟩,
              ⟨some 24, .bin .gtr (.t 23) (.c (.v false (.int .i64 0))), none⟩] none)
            (.cond (.t 24) (.skip)
             (.exit 1)))
           (.seq (.blk 2 (.reg [0, 1, 4, 5, 6] [] [
               ⟨some 27, .fad (.t 5) 9, none⟩,
               ⟨some 28, .ld false 1 (.t 27), none⟩,
               ⟨some 29, .mv (.t 0), none⟩,
               ⟨some 30, .mv (.t 1), none⟩,
               ⟨some 31, .len (.t 30), none⟩,
               ⟨some 32, .call 375 [0] [(.t 29), (.t 31)], none⟩,
               ⟨some 33, .bsl 1 [.int .i64 0] 1 [(0, (.t 32))], none⟩,
               ⟨some 34, .app 1 8 (.t 28) (.t 33), none⟩,
               ⟨some 35, .fad (.t 5) 9, none⟩,
               ⟨none, .st 1 (.t 35) (.t 34), none⟩] (some [(1, 5), (1, 6)])))
            (.reg [0, 1, 4, 5, 6] [] [
              ⟨some 25, .mv (.t 6), none⟩,
              ⟨some 26, .bin .sub (.t 25) (.c (.v false (.int .i64 1))), none⟩,
              ⟨some 6, .mv (.t 26), none⟩] none))

def pb354 : PC :=
.seq (.reg [0, 1, 4] [] [
   ⟨some 4, .alloc [(.v false (.int .i64 0)), (.v false (.int .i64 0)), (.v false (.int .i64 0)), (.v false (.int .i64 0)), (.v false (.int .i64 0)), (.v false (.int .i64 0)), (.v false (.str ⟨#[]⟩)), (.nl 7), (.v false (.int .i64 0)), (.nl 1)], none⟩] none)
 (.seq (.reg [0, 1, 4, 5] [] [
    ⟨some 9, .mv (.t 0), none⟩,
    ⟨some 10, .call 375 [0] [(.t 9), (.c (.v false (.int .i64 5)))], none⟩,
    ⟨some 11, .bin .add (.c (.v false (.int .i64 1))) (.t 10), none⟩,
    ⟨some 12, .mv (.t 0), none⟩,
    ⟨some 13, .mv (.t 1), none⟩,
    ⟨some 14, .call 352 [0] [(.t 12), (.t 13)], none⟩,
    ⟨some 15, .build [(.v false (.int .i64 0)), (.v false (.int .i64 0)), (.v false (.int .i64 0)), (.v false (.int .i64 0)), (.v false (.int .i64 0)), (.v false (.int .i64 0)), (.v false (.str ⟨#[]⟩)), (.nl 7), (.v false (.int .i64 0)), (.nl 1)] [(0, 1, (.t 11)), (1, 7, (.t 14))], none⟩,
    ⟨some 5, .alloc [(.v false (.int .i64 0)), (.v false (.int .i64 0)), (.v false (.int .i64 0)), (.v false (.int .i64 0)), (.v false (.int .i64 0)), (.v false (.int .i64 0)), (.v false (.str ⟨#[]⟩)), (.nl 7), (.v false (.int .i64 0)), (.nl 1)], none⟩,
    ⟨none, .st 10 (.t 5) (.t 15), none⟩] none)
  (.seq (.seq (.reg [0, 1, 4, 5, 17] [] [
      ⟨some 16, .fad (.t 5) 0, none⟩,
      ⟨some 17, .ld false 1 (.t 16), none⟩] none)
    (.blk 0 (.seq (.reg [0, 1, 4, 5, 17, 18] [] [
        ⟨some 19, .bin .eql (.t 17) (.c (.v false (.int .i64 1))), none⟩,
        ⟨some 18, .mv (.t 19), none⟩] none)
      (.cond (.t 18) (.seq (.reg [0, 1, 4, 5, 6] [] [
          ⟨some 20, .mv (.t 0), none⟩,
          ⟨some 21, .call 375 [0] [(.t 20), (.c (.v false (.int .i64 2)))], none⟩,
          ⟨some 22, .bin .add (.c (.v false (.int .i64 1))) (.t 21), none⟩,
          ⟨some 6, .mv (.t 22), none⟩] none)
        (.blk 1 (.loop pl354_1)))
       (.seq (.reg [0, 1, 4, 5, 17, 36] [] [
          ⟨some 37, .bin .eql (.t 17) (.c (.v false (.int .i64 3))), none⟩,
          ⟨some 36, .mv (.t 37), none⟩] none)
        (.cond (.t 36) (.seq (.reg [0, 1, 4, 5, 7] [] [
            ⟨some 7, .mv (.c (.v false (.int .i64 (-1)))), none⟩] none)
          (.seq (.seq (.reg [0, 1, 4, 5, 7, 8] [] [
              ⟨some 8, .mv (.c (.v false (.int .i64 0))), none⟩] none)
            (.blk 3 (.loop pl354_0)))
           (.seq (.reg [0, 4, 5, 7, 51] [] [
              ⟨some 50, .mv (.t 7), none⟩,
              ⟨some 51, .bin .lss (.t 50) (.c (.v false (.int .i64 0))), none⟩] none)
            (.cond (.t 51) (.reg [0, 4, 5] [] [
               ⟨some 52, .fad (.t 5) 0, none⟩,
               ⟨none, .st 1 (.t 52) (.c (.v false (.int .i64 2))), none⟩] none)
             (.reg [0, 4, 5] [] [
               ⟨some 53, .mv (.t 7), none⟩,
               ⟨some 54, .fad (.t 5) 8, none⟩,
               ⟨none, .st 1 (.t 54) (.t 53), none⟩] none)))))
         (.seq (.seq (.reg [0, 1, 4, 5, 17, 55] [] [
             ⟨some 56, .bin .eql (.t 17) (.c (.v false (.int .i64 4))), none⟩,
             ⟨some 55, .mv (.t 56), none⟩] none)
           (.cond (.t 55) (.skip)
            (.reg [0, 1, 4, 5, 55] [] [
              ⟨some 57, .bin .eql (.t 17) (.c (.v false (.int .i64 5))), none⟩,
              ⟨some 55, .mv (.t 57), none⟩] none)))
          (.cond (.t 55) (.reg [0, 4, 5] [] [
             ⟨some 58, .mv (.t 0), none⟩,
             ⟨some 59, .mv (.t 1), none⟩,
             ⟨some 60, .len (.t 59), none⟩,
             ⟨some 61, .call 375 [0] [(.t 58), (.t 60)], none⟩,
             ⟨some 62, .fad (.t 5) 8, none⟩,
             ⟨none, .st 1 (.t 62) (.t 61), none⟩] none)
           (.skip)))))))))
   (.seq (.reg [0, 4] [] [
      ⟨some 63, .ld true 10 (.t 5), none⟩,
      ⟨none, .st 10 (.t 4) (.t 63), none⟩] none)
    (.ret))))

def pf354 : PF := ⟨[.b 4 10 true], [0], pb354⟩

-- loop.example/g00496/spec.l18Draw
def pl369_0 : PC :=
.seq (.seq (.reg [0, 2, 3, 4, 5, 13] [] [
           ⟨some 12, .mv (.t 5), none⟩,
           ⟨some 13, .bin .gtr (.t 12) (.c (.v false (.int .i64 0))), none⟩] none)
         (.cond (.t 13) (.skip)
          (.exit 0)))
        (.seq (.blk 1 (.seq (.reg [0, 2, 3, 4, 5, 6] [] [
             ⟨some 16, .fad (.t 3) 1, none⟩,
             ⟨some 17, .ld false 1 (.t 16), none⟩,
             ⟨some 18, .len (.t 17), none⟩,
             ⟨some 19, .mv (.t 0), none⟩,
             ⟨some 20, .call 375 [0] [(.t 19), (.c (.v false (.int .i64 3)))], none⟩,
             ⟨some 21, .mv (.t 0), none⟩,
             ⟨some 22, .call 375 [0] [(.t 21), (.c (.v false (.int .i64 2)))], none⟩,
             ⟨some 23, .bin .add (.c (.v false (.int .i64 1))) (.t 22), none⟩,
             ⟨some 24, .mv (.t 4), none⟩,
             ⟨some 25, .mv (.t 0), none⟩,
             ⟨some 26, .call 375 [0] [(.t 25), (.c (.v false (.int .i64 4)))], none⟩,
             ⟨some 27, .bin .add (.c (.v false (.int .i64 1))) (.t 26), none⟩,
             ⟨some 28, .build [(.v false (.int .i64 0)), (.v false (.int .i64 0)), (.v false (.int .i64 0)), (.v false (.int .i64 0)), (.v false (.int .i64 0))] [(0, 1, (.t 18)), (1, 1, (.t 20)), (2, 1, (.t 23)), (3, 1, (.t 24)), (4, 1, (.t 27))], none⟩,
             ⟨some 6, .alloc [(.v false (.int .i64 0)), (.v false (.int .i64 0)), (.v false (.int .i64 0)), (.v false (.int .i64 0)), (.v false (.int .i64 0))], none⟩,
             ⟨none, .st 5 (.t 6) (.t 28), none⟩] (some [(1, 4), (2, 4), (1, 6), (2, 6), (1, 10), (2, 10), (1, 13), (2, 13), (4, 13), (6, 13), (10, 13)]))
           (.seq (.reg [0, 2, 3, 4, 5, 6] [] [
              ⟨some 29, .fad (.t 3) 1, none⟩,
              ⟨some 30, .ld false 1 (.t 29), none⟩,
              ⟨some 31, .ld true 5 (.t 6), none⟩,
              ⟨some 32, .bsl 5 [.int .i64 0, .int .i64 0, .int .i64 0, .int .i64 0, .int .i64 0] 1 [(0, (.t 31))], none⟩,
              ⟨some 33, .app 5 40 (.t 30) (.t 32), none⟩,
              ⟨some 34, .fad (.t 3) 1, none⟩,
              ⟨none, .st 1 (.t 34) (.t 33), none⟩] none)
            (.reg [0, 2, 3, 4, 5] [] [
              ⟨some 35, .mv (.t 4), none⟩,
              ⟨some 36, .fad (.t 6) 4, none⟩,
              ⟨some 37, .ld false 1 (.t 36), none⟩,
              ⟨some 38, .bin .add (.t 35) (.t 37), none⟩,
              ⟨some 4, .mv (.t 38), none⟩] none))))
         (.reg [0, 2, 3, 4, 5] [] [
           ⟨some 14, .mv (.t 5), none⟩,
           ⟨some 15, .bin .sub (.t 14) (.c (.v false (.int .i64 1))), none⟩,
           ⟨some 5, .mv (.t 15), none⟩] none))

def pb369 : PC :=
.seq (.reg [0, 2] [] [
   ⟨some 2, .alloc [(.v false (.int .i64 0)), (.nl 5)], none⟩] none)
 (.seq (.reg [0, 2, 3] [] [
    ⟨some 7, .mv (.t 0), none⟩,
    ⟨some 8, .call 375 [0] [(.t 7), (.c (.v false (.int .i64 4)))], none⟩,
    ⟨some 9, .build [(.v false (.int .i64 0)), (.nl 5)] [(0, 1, (.t 8))], none⟩,
    ⟨some 3, .alloc [(.v false (.int .i64 0)), (.nl 5)], none⟩,
    ⟨none, .st 2 (.t 3) (.t 9), none⟩] none)
  (.seq (.reg [0, 2, 3, 4] [] [
     ⟨some 4, .mv (.c (.v false (.int .i64 0))), none⟩] none)
   (.seq (.seq (.reg [0, 2, 3, 4, 5] [(11, 5)] [
       ⟨some 10, .mv (.t 0), none⟩,
       ⟨some 11, .call 375 [0] [(.t 10), (.c (.v false (.int .i64 5)))], none⟩,
       ⟨some 5, .mv (.t 11), none⟩] none)
     (.blk 0 (.loop pl369_0)))
    (.seq (.reg [0, 2] [] [
       ⟨some 39, .ld true 2 (.t 3), none⟩,
       ⟨none, .st 2 (.t 2) (.t 39), none⟩] none)
     (.ret)))))

def pf369 : PF := ⟨[.b 2 2 true], [0], pb369⟩

-- loop.example/g00496/spec.l18RefOk
def pb370 : PC :=
.seq (.reg [1] [] [
   ⟨some 1, .box 5 (.t 0), none⟩,
   ⟨some 2, .mv (.c (.v false (.bool false))), none⟩] none)
 (.seq (.reg [2] [(14, 2)] [
    ⟨some 3, .fad (.t 1) 0, none⟩,
    ⟨some 4, .ld false 1 (.t 3), none⟩,
    ⟨some 5, .bin .geq (.t 4) (.c (.v false (.int .i64 0))), none⟩,
    ⟨some 6, .mv (.t 5), none⟩,
    ⟨some 7, .fad (.t 1) 1, some (6, true)⟩,
    ⟨some 8, .ld false 1 (.t 7), some (6, true)⟩,
    ⟨some 9, .bin .geq (.t 8) (.c (.v false (.int .i64 0))), some (6, true)⟩,
    ⟨some 10, .pick (.t 6) (.t 9) (.c (.v false (.bool false))), none⟩,
    ⟨some 11, .mv (.t 10), none⟩,
    ⟨some 12, .fad (.t 1) 2, some (11, true)⟩,
    ⟨some 13, .ld false 1 (.t 12), some (11, true)⟩,
    ⟨some 14, .call 377 [] [(.t 13), (.c (.v false (.int .i64 1))), (.c (.v false (.int .i64 2)))], some (11, true)⟩,
    ⟨some 15, .pick (.t 11) (.t 14) (.c (.v false (.bool false))), none⟩,
    ⟨some 16, .mv (.t 15), none⟩,
    ⟨some 17, .fad (.t 1) 4, some (16, true)⟩,
    ⟨some 18, .ld false 1 (.t 17), some (16, true)⟩,
    ⟨some 19, .bin .geq (.t 18) (.c (.v false (.int .i64 1))), some (16, true)⟩,
    ⟨some 20, .pick (.t 16) (.t 19) (.c (.v false (.bool false))), none⟩,
    ⟨some 21, .mv (.t 20), none⟩,
    ⟨some 22, .fad (.t 1) 4, some (21, true)⟩,
    ⟨some 23, .ld false 1 (.t 22), some (21, true)⟩,
    ⟨some 24, .bin .leq (.t 23) (.c (.v false (.int .i64 1000000000))), some (21, true)⟩,
    ⟨some 25, .pick (.t 21) (.t 24) (.c (.v false (.bool false))), none⟩,
    ⟨some 2, .mv (.t 25), none⟩] none)
  (.ret))

def pf370 : PF := ⟨[.s 2], [], pb370⟩

-- loop.example/g00496/spec.l19Any
def pb371 : PC :=
.seq (.reg [0, 2] [] [
   ⟨some 2, .alloc [(.v false (.int .i64 0)), (.v false (.int .i64 0)), (.v false (.int .i64 0)), (.nl 3), (.v false (.int .i64 0)), (.v false (.int .i64 0)), (.v false (.int .i64 0)), (.v false (.int .i64 0)), (.v false (.int .i64 0)), (.v false (.int .i64 0)), (.v false (.int .i64 0)), (.v false (.str ⟨#[]⟩)), (.nl 7), (.v false (.int .i64 0)), (.nl 1), (.v false (.int .i64 0)), (.v false (.int .i64 0)), (.nl 5), (.v false (.int .i64 0)), (.v false (.int .i64 0)), (.v false (.int .i64 0)), (.v false (.int .i64 0)), (.v false (.int .i64 0)), (.v false (.bool false)), (.nl 2)], none⟩,
   ⟨some 3, .mv (.c (.v false (.int .i64 0))), none⟩] none)
 (.seq (.reg [0, 2, 4, 5] [(8, 5)] [
    ⟨some 7, .mv (.t 0), none⟩,
    ⟨some 8, .call 373 [0] [(.t 7)], none⟩,
    ⟨some 6, .mv (.t 8), none⟩,
    ⟨some 9, .ext (.t 6) 0, none⟩,
    ⟨some 10, .ext (.t 6) 1, none⟩,
    ⟨some 4, .alloc [(.v false (.int .i64 0)), (.v false (.int .i64 0)), (.v false (.int .i64 0)), (.nl 3), (.v false (.int .i64 0)), (.v false (.int .i64 0)), (.v false (.int .i64 0)), (.v false (.int .i64 0)), (.v false (.int .i64 0)), (.v false (.int .i64 0)), (.v false (.int .i64 0)), (.v false (.str ⟨#[]⟩)), (.nl 7), (.v false (.int .i64 0)), (.nl 1), (.v false (.int .i64 0)), (.v false (.int .i64 0)), (.nl 5), (.v false (.int .i64 0)), (.v false (.int .i64 0)), (.v false (.int .i64 0)), (.v false (.int .i64 0)), (.v false (.int .i64 0)), (.v false (.bool false)), (.nl 2)], none⟩,
    ⟨none, .st 25 (.t 4) (.t 9), none⟩,
    ⟨some 5, .mv (.t 10), none⟩] none)
  (.seq (.seq (.reg [0, 2, 4, 5, 12] [] [
      ⟨some 11, .mv (.t 0), none⟩,
      ⟨some 12, .call 375 [0] [(.t 11), (.c (.v false (.int .i64 14)))], none⟩] none)
    (.blk 0 (.seq (.reg [0, 2, 4, 5, 12, 13] [] [
        ⟨some 14, .bin .eql (.t 12) (.c (.v false (.int .i64 0))), none⟩,
        ⟨some 13, .mv (.t 14), none⟩] none)
      (.cond (.t 13) (.reg [0, 2, 4, 5] [] [
         ⟨some 15, .mv (.t 0), none⟩,
         ⟨some 16, .bsl 1 [.int .i64 0, .int .i64 0, .int .i64 0, .int .i64 0, .int .i64 0] 5 [(0, (.c (.v false (.int .i64 0)))), (1, (.c (.v false (.int .i64 1)))), (2, (.c (.v false (.int .i64 4)))), (3, (.c (.v false (.int .i64 5)))), (4, (.c (.v false (.int .i64 (-1)))))], none⟩,
         ⟨some 17, .call 378 [0] [(.t 15), (.t 16)], none⟩,
         ⟨some 18, .fad (.t 4) 0, none⟩,
         ⟨none, .st 1 (.t 18) (.t 17), none⟩] none)
       (.seq (.reg [0, 2, 4, 5, 12, 19] [] [
          ⟨some 20, .bin .eql (.t 12) (.c (.v false (.int .i64 1))), none⟩,
          ⟨some 19, .mv (.t 20), none⟩] none)
        (.cond (.t 19) (.reg [0, 2, 4, 5] [] [
           ⟨some 21, .mv (.t 0), none⟩,
           ⟨some 22, .bsl 1 [.int .i64 0, .int .i64 0, .int .i64 0] 3 [(0, (.c (.v false (.int .i64 (-1))))), (1, (.c (.v false (.int .i64 9)))), (2, (.c (.v false (.int .i64 10))))], none⟩,
           ⟨some 23, .call 378 [0] [(.t 21), (.t 22)], none⟩,
           ⟨some 24, .fad (.t 4) 1, none⟩,
           ⟨none, .st 1 (.t 24) (.t 23), none⟩] none)
         (.seq (.reg [0, 2, 4, 5, 12, 25] [] [
            ⟨some 26, .bin .eql (.t 12) (.c (.v false (.int .i64 2))), none⟩,
            ⟨some 25, .mv (.t 26), none⟩] none)
          (.cond (.t 25) (.reg [0, 2, 4, 5] [] [
             ⟨some 27, .fad (.t 4) 2, none⟩,
             ⟨none, .st 1 (.t 27) (.c (.v false (.int .i64 (-1)))), none⟩] none)
           (.seq (.reg [0, 2, 4, 5, 12, 28] [] [
              ⟨some 29, .bin .eql (.t 12) (.c (.v false (.int .i64 3))), none⟩,
              ⟨some 28, .mv (.t 29), none⟩] none)
            (.cond (.t 28) (.reg [0, 2, 4, 5] [] [
               ⟨some 30, .mv (.t 0), none⟩,
               ⟨some 31, .call 375 [0] [(.t 30), (.c (.v false (.int .i64 7)))], none⟩,
               ⟨some 32, .bin .sub (.t 31) (.c (.v false (.int .i64 1))), none⟩,
               ⟨some 5, .mv (.t 32), none⟩] none)
             (.seq (.reg [0, 2, 4, 5, 12, 33] [] [
                ⟨some 34, .bin .eql (.t 12) (.c (.v false (.int .i64 4))), none⟩,
                ⟨some 33, .mv (.t 34), none⟩] none)
              (.cond (.t 33) (.reg [0, 2, 4, 5] [] [
                 ⟨some 35, .mv (.t 0), none⟩,
                 ⟨some 36, .bsl 1 [.int .i64 0, .int .i64 0] 2 [(0, (.c (.v false (.int .i64 (-1))))), (1, (.c (.v false (.int .i64 2))))], none⟩,
                 ⟨some 37, .call 378 [0] [(.t 35), (.t 36)], none⟩,
                 ⟨some 38, .fad (.t 4) 20, none⟩,
                 ⟨none, .st 1 (.t 38) (.t 37), none⟩] none)
               (.seq (.reg [0, 2, 4, 5, 39] [] [
                  ⟨some 40, .bin .eql (.t 12) (.c (.v false (.int .i64 5))), none⟩,
                  ⟨some 39, .mv (.t 40), none⟩] none)
                (.cond (.t 39) (.reg [0, 2, 4, 5] [] [
                   ⟨some 41, .fad (.t 4) 17, none⟩,
                   ⟨some 42, .ld false 1 (.t 41), none⟩,
                   ⟨some 43, .build [(.v false (.int .i64 0)), (.v false (.int .i64 0)), (.v false (.int .i64 0)), (.v false (.int .i64 0)), (.v false (.int .i64 0))] [(0, 1, (.c (.v false (.int .i64 (-1)))))], none⟩,
                   ⟨some 44, .bsl 5 [.int .i64 0, .int .i64 0, .int .i64 0, .int .i64 0, .int .i64 0] 1 [(0, (.t 43))], none⟩,
                   ⟨some 45, .app 5 40 (.t 42) (.t 44), none⟩,
                   ⟨some 46, .fad (.t 4) 17, none⟩,
                   ⟨none, .st 1 (.t 46) (.t 45), none⟩] none)
                 (.skip)))))))))))))))
   (.seq (.reg [0, 2, 3, 5] [] [
      ⟨some 47, .ld true 25 (.t 4), none⟩,
      ⟨some 48, .mv (.t 5), none⟩,
      ⟨none, .st 25 (.t 2) (.t 47), none⟩,
      ⟨some 3, .mv (.t 48), none⟩] none)
    (.ret))))

def pf371 : PF := ⟨[.b 2 25 true, .s 3], [0], pb371⟩

-- loop.example/g00496/spec.l19Bare
def pb372 : PC :=
.seq (.reg [1] [] [
   ⟨some 1, .box 25 (.t 0), none⟩,
   ⟨some 2, .mv (.c (.v false (.bool false))), none⟩] none)
 (.seq (.reg [2] [(25, 2)] [
    ⟨some 3, .fad (.t 1) 1, none⟩,
    ⟨some 4, .ld false 1 (.t 3), none⟩,
    ⟨some 5, .bin .eql (.t 4) (.c (.v false (.int .i64 0))), none⟩,
    ⟨some 6, .mv (.t 5), none⟩,
    ⟨some 7, .fad (.t 1) 2, some (6, true)⟩,
    ⟨some 8, .ld false 1 (.t 7), some (6, true)⟩,
    ⟨some 9, .bin .eql (.t 8) (.c (.v false (.int .i64 0))), some (6, true)⟩,
    ⟨some 10, .pick (.t 6) (.t 9) (.c (.v false (.bool false))), none⟩,
    ⟨some 11, .mv (.t 10), none⟩,
    ⟨some 12, .fad (.t 1) 3, some (11, true)⟩,
    ⟨some 13, .ld false 1 (.t 12), some (11, true)⟩,
    ⟨some 14, .len (.t 13), some (11, true)⟩,
    ⟨some 15, .bin .eql (.t 14) (.c (.v false (.int .i64 0))), some (11, true)⟩,
    ⟨some 16, .pick (.t 11) (.t 15) (.c (.v false (.bool false))), none⟩,
    ⟨some 17, .mv (.t 16), none⟩,
    ⟨some 18, .fad (.t 1) 4, some (17, true)⟩,
    ⟨some 19, .ld false 1 (.t 18), some (17, true)⟩,
    ⟨some 20, .bin .eql (.t 19) (.c (.v false (.int .i64 0))), some (17, true)⟩,
    ⟨some 21, .pick (.t 17) (.t 20) (.c (.v false (.bool false))), none⟩,
    ⟨some 22, .mv (.t 21), none⟩,
    ⟨some 23, .fad (.t 1) 5, some (22, true)⟩,
    ⟨some 24, .ld true 10 (.t 23), some (22, true)⟩,
    ⟨some 25, .call 374 [] [(.t 24)], some (22, true)⟩,
    ⟨some 26, .pick (.t 22) (.t 25) (.c (.v false (.bool false))), none⟩,
    ⟨some 27, .mv (.t 26), none⟩,
    ⟨some 28, .fad (.t 1) 15, some (27, true)⟩,
    ⟨some 29, .ld false 1 (.t 28), some (27, true)⟩,
    ⟨some 30, .bin .eql (.t 29) (.c (.v false (.int .i64 0))), some (27, true)⟩,
    ⟨some 31, .pick (.t 27) (.t 30) (.c (.v false (.bool false))), none⟩,
    ⟨some 32, .mv (.t 31), none⟩,
    ⟨some 33, .fad (.t 1) 16, some (32, true)⟩,
    ⟨some 34, .ld false 1 (.t 33), some (32, true)⟩,
    ⟨some 35, .bin .eql (.t 34) (.c (.v false (.int .i64 0))), some (32, true)⟩,
    ⟨some 36, .pick (.t 32) (.t 35) (.c (.v false (.bool false))), none⟩,
    ⟨some 37, .mv (.t 36), none⟩,
    ⟨some 38, .fad (.t 1) 17, some (37, true)⟩,
    ⟨some 39, .ld false 1 (.t 38), some (37, true)⟩,
    ⟨some 40, .len (.t 39), some (37, true)⟩,
    ⟨some 41, .bin .eql (.t 40) (.c (.v false (.int .i64 0))), some (37, true)⟩,
    ⟨some 42, .pick (.t 37) (.t 41) (.c (.v false (.bool false))), none⟩,
    ⟨some 43, .mv (.t 42), none⟩,
    ⟨some 44, .fad (.t 1) 18, some (43, true)⟩,
    ⟨some 45, .ld false 1 (.t 44), some (43, true)⟩,
    ⟨some 46, .bin .eql (.t 45) (.c (.v false (.int .i64 0))), some (43, true)⟩,
    ⟨some 47, .pick (.t 43) (.t 46) (.c (.v false (.bool false))), none⟩,
    ⟨some 48, .mv (.t 47), none⟩,
    ⟨some 49, .fad (.t 1) 19, some (48, true)⟩,
    ⟨some 50, .ld false 1 (.t 49), some (48, true)⟩,
    ⟨some 51, .bin .eql (.t 50) (.c (.v false (.int .i64 0))), some (48, true)⟩,
    ⟨some 52, .pick (.t 48) (.t 51) (.c (.v false (.bool false))), none⟩,
    ⟨some 53, .mv (.t 52), none⟩,
    ⟨some 54, .fad (.t 1) 20, some (53, true)⟩,
    ⟨some 55, .ld false 1 (.t 54), some (53, true)⟩,
    ⟨some 56, .bin .eql (.t 55) (.c (.v false (.int .i64 0))), some (53, true)⟩,
    ⟨some 57, .pick (.t 53) (.t 56) (.c (.v false (.bool false))), none⟩,
    ⟨some 58, .mv (.t 57), none⟩,
    ⟨some 59, .fad (.t 1) 21, some (58, true)⟩,
    ⟨some 60, .ld false 1 (.t 59), some (58, true)⟩,
    ⟨some 61, .bin .eql (.t 60) (.c (.v false (.int .i64 0))), some (58, true)⟩,
    ⟨some 62, .pick (.t 58) (.t 61) (.c (.v false (.bool false))), none⟩,
    ⟨some 63, .mv (.t 62), none⟩,
    ⟨some 64, .fad (.t 1) 22, some (63, true)⟩,
    ⟨some 65, .ld false 1 (.t 64), some (63, true)⟩,
    ⟨some 66, .bin .eql (.t 65) (.c (.v false (.int .i64 0))), some (63, true)⟩,
    ⟨some 67, .pick (.t 63) (.t 66) (.c (.v false (.bool false))), none⟩,
    ⟨some 68, .mv (.t 67), none⟩,
    ⟨some 69, .fad (.t 1) 23, some (68, true)⟩,
    ⟨some 70, .ld false 1 (.t 69), some (68, true)⟩,
    ⟨some 71, .un .not (.t 70), some (68, true)⟩,
    ⟨some 72, .pick (.t 68) (.t 71) (.c (.v false (.bool false))), none⟩,
    ⟨some 73, .mv (.t 72), none⟩,
    ⟨some 74, .fad (.t 1) 24, some (73, true)⟩,
    ⟨some 75, .ld false 1 (.t 74), some (73, true)⟩,
    ⟨some 76, .len (.t 75), some (73, true)⟩,
    ⟨some 77, .bin .eql (.t 76) (.c (.v false (.int .i64 0))), some (73, true)⟩,
    ⟨some 78, .pick (.t 73) (.t 77) (.c (.v false (.bool false))), none⟩,
    ⟨some 2, .mv (.t 78), none⟩] none)
  (.ret))

def pf372 : PF := ⟨[.s 2], [], pb372⟩

-- loop.example/g00496/spec.l19Draw
def pb373 : PC :=
.seq (.reg [0, 2] [] [
   ⟨some 2, .alloc [(.v false (.int .i64 0)), (.v false (.int .i64 0)), (.v false (.int .i64 0)), (.nl 3), (.v false (.int .i64 0)), (.v false (.int .i64 0)), (.v false (.int .i64 0)), (.v false (.int .i64 0)), (.v false (.int .i64 0)), (.v false (.int .i64 0)), (.v false (.int .i64 0)), (.v false (.str ⟨#[]⟩)), (.nl 7), (.v false (.int .i64 0)), (.nl 1), (.v false (.int .i64 0)), (.v false (.int .i64 0)), (.nl 5), (.v false (.int .i64 0)), (.v false (.int .i64 0)), (.v false (.int .i64 0)), (.v false (.int .i64 0)), (.v false (.int .i64 0)), (.v false (.bool false)), (.nl 2)], none⟩,
   ⟨some 3, .mv (.c (.v false (.int .i64 0))), none⟩] none)
 (.seq (.reg [0, 2, 4] [] [
    ⟨some 6, .mv (.t 0), none⟩,
    ⟨some 7, .call 375 [0] [(.t 6), (.c (.v false (.int .i64 5)))], none⟩,
    ⟨some 8, .build [(.v false (.int .i64 0)), (.v false (.int .i64 0)), (.v false (.int .i64 0)), (.nl 3), (.v false (.int .i64 0)), (.v false (.int .i64 0)), (.v false (.int .i64 0)), (.v false (.int .i64 0)), (.v false (.int .i64 0)), (.v false (.int .i64 0)), (.v false (.int .i64 0)), (.v false (.str ⟨#[]⟩)), (.nl 7), (.v false (.int .i64 0)), (.nl 1), (.v false (.int .i64 0)), (.v false (.int .i64 0)), (.nl 5), (.v false (.int .i64 0)), (.v false (.int .i64 0)), (.v false (.int .i64 0)), (.v false (.int .i64 0)), (.v false (.int .i64 0)), (.v false (.bool false)), (.nl 2)] [(0, 1, (.t 7))], none⟩,
    ⟨some 4, .alloc [(.v false (.int .i64 0)), (.v false (.int .i64 0)), (.v false (.int .i64 0)), (.nl 3), (.v false (.int .i64 0)), (.v false (.int .i64 0)), (.v false (.int .i64 0)), (.v false (.int .i64 0)), (.v false (.int .i64 0)), (.v false (.int .i64 0)), (.v false (.int .i64 0)), (.v false (.str ⟨#[]⟩)), (.nl 7), (.v false (.int .i64 0)), (.nl 1), (.v false (.int .i64 0)), (.v false (.int .i64 0)), (.nl 5), (.v false (.int .i64 0)), (.v false (.int .i64 0)), (.v false (.int .i64 0)), (.v false (.int .i64 0)), (.v false (.int .i64 0)), (.v false (.bool false)), (.nl 2)], none⟩,
    ⟨none, .st 25 (.t 4) (.t 8), none⟩] none)
  (.seq (.reg [0, 2, 4, 5] [(10, 5)] [
     ⟨some 9, .mv (.t 0), none⟩,
     ⟨some 10, .call 375 [0] [(.t 9), (.c (.v false (.int .i64 3)))], none⟩,
     ⟨some 5, .mv (.t 10), none⟩] none)
   (.seq (.seq (.reg [0, 2, 4, 5, 13] [] [
       ⟨some 11, .fad (.t 4) 0, none⟩,
       ⟨some 12, .ld false 1 (.t 11), none⟩,
       ⟨some 13, .bin .eql (.t 12) (.c (.v false (.int .i64 0))), none⟩] none)
     (.cond (.t 13) (.seq (.reg [0, 2, 3] [(16, 3)] [
         ⟨some 14, .ld true 25 (.t 4), none⟩,
         ⟨some 15, .mv (.t 0), none⟩,
         ⟨some 16, .call 375 [0] [(.t 15), (.c (.v false (.int .i64 5)))], none⟩,
         ⟨none, .st 25 (.t 2) (.t 14), none⟩,
         ⟨some 3, .mv (.t 16), none⟩] (some [(0, 2)]))
       (.ret))
      (.skip)))
    (.seq (.reg [0, 2, 4, 5] [] [
       ⟨some 17, .mv (.t 0), none⟩,
       ⟨some 18, .call 375 [0] [(.t 17), (.c (.v false (.int .i64 10)))], none⟩,
       ⟨some 19, .fad (.t 4) 1, none⟩,
       ⟨none, .st 1 (.t 19) (.t 18), none⟩] none)
     (.seq (.reg [0, 2, 4, 5] [] [
        ⟨some 20, .mv (.t 0), none⟩,
        ⟨some 21, .call 375 [0] [(.t 20), (.c (.v false (.int .i64 5)))], none⟩,
        ⟨some 22, .fad (.t 4) 2, none⟩,
        ⟨none, .st 1 (.t 22) (.t 21), none⟩] none)
      (.seq (.seq (.reg [0, 2, 4, 5, 24] [] [
          ⟨some 23, .fad (.t 4) 0, none⟩,
          ⟨some 24, .ld false 1 (.t 23), none⟩] none)
        (.blk 0 (.seq (.reg [0, 2, 4, 5, 24, 25] [] [
            ⟨some 26, .bin .eql (.t 24) (.c (.v false (.int .i64 1))), none⟩,
            ⟨some 25, .mv (.t 26), none⟩] none)
          (.cond (.t 25) (.seq (.reg [0, 2, 4, 5] [] [
              ⟨some 27, .mv (.t 0), none⟩,
              ⟨some 28, .mv (.t 0), none⟩,
              ⟨some 29, .call 399 [0] [(.t 28)], none⟩,
              ⟨some 30, .call 401 [0] [(.t 27), (.t 29)], none⟩,
              ⟨some 31, .fad (.t 4) 3, none⟩,
              ⟨none, .st 1 (.t 31) (.t 30), none⟩] none)
            (.reg [0, 2, 4, 5] [] [
              ⟨some 32, .mv (.t 0), none⟩,
              ⟨some 33, .call 375 [0] [(.t 32), (.c (.v false (.int .i64 3)))], none⟩,
              ⟨some 34, .fad (.t 4) 4, none⟩,
              ⟨none, .st 1 (.t 34) (.t 33), none⟩] none))
           (.seq (.reg [0, 2, 4, 5, 24, 35] [] [
              ⟨some 36, .bin .eql (.t 24) (.c (.v false (.int .i64 2))), none⟩,
              ⟨some 35, .mv (.t 36), none⟩] none)
            (.cond (.t 35) (.reg [0, 2, 4, 5] [] [
               ⟨some 37, .mv (.t 0), none⟩,
               ⟨some 38, .call 375 [0] [(.t 37), (.c (.v false (.int .i64 6)))], none⟩,
               ⟨some 39, .fad (.t 4) 4, none⟩,
               ⟨none, .st 1 (.t 39) (.t 38), none⟩] none)
             (.seq (.reg [0, 2, 4, 5, 24, 40] [] [
                ⟨some 41, .bin .eql (.t 24) (.c (.v false (.int .i64 3))), none⟩,
                ⟨some 40, .mv (.t 41), none⟩] none)
              (.cond (.t 40) (.seq (.reg [0, 2, 4, 5] [] [
                  ⟨some 42, .mv (.t 0), none⟩,
                  ⟨some 43, .mv (.t 0), none⟩,
                  ⟨some 44, .call 399 [0] [(.t 43)], none⟩,
                  ⟨some 45, .call 354 [0] [(.t 42), (.t 44)], none⟩,
                  ⟨some 46, .fad (.t 4) 5, none⟩,
                  ⟨none, .st 10 (.t 46) (.t 45), none⟩] none)
                (.reg [0, 2, 4, 5] [] [
                  ⟨some 47, .mv (.t 0), none⟩,
                  ⟨some 48, .call 375 [0] [(.t 47), (.c (.v false (.int .i64 5)))], none⟩,
                  ⟨some 49, .fad (.t 4) 15, none⟩,
                  ⟨none, .st 1 (.t 49) (.t 48), none⟩] none))
               (.seq (.reg [0, 2, 4, 5, 50] [] [
                  ⟨some 51, .bin .eql (.t 24) (.c (.v false (.int .i64 4))), none⟩,
                  ⟨some 50, .mv (.t 51), none⟩] none)
                (.cond (.t 50) (.reg [0, 2, 4, 5] [] [
                   ⟨some 52, .mv (.t 0), none⟩,
                   ⟨some 53, .call 375 [0] [(.t 52), (.c (.v false (.int .i64 2)))], none⟩,
                   ⟨some 54, .bin .add (.c (.v false (.int .i64 3))) (.t 53), none⟩,
                   ⟨some 5, .mv (.t 54), none⟩] none)
                 (.skip)))))))))))
       (.seq (.reg [0, 2, 4, 5] [] [
          ⟨some 55, .fad (.t 4) 17, none⟩,
          ⟨some 56, .ld false 1 (.t 55), none⟩,
          ⟨some 57, .mv (.t 0), none⟩,
          ⟨some 58, .call 369 [0] [(.t 57)], none⟩,
          ⟨some 59, .fldv (.t 58) 1, none⟩,
          ⟨some 60, .app 5 40 (.t 56) (.t 59), none⟩,
          ⟨some 61, .fad (.t 4) 17, none⟩,
          ⟨none, .st 1 (.t 61) (.t 60), none⟩] (some [(1, 3)]))
        (.seq (.reg [0, 2, 3, 5] [] [
           ⟨some 62, .ld true 25 (.t 4), none⟩,
           ⟨some 63, .mv (.t 5), none⟩,
           ⟨none, .st 25 (.t 2) (.t 62), none⟩,
           ⟨some 3, .mv (.t 63), none⟩] none)
         (.ret)))))))))

def pf373 : PF := ⟨[.b 2 25 true, .s 3], [0], pb373⟩

-- loop.example/g00496/spec.l19NoQuery
def pb374 : PC :=
.seq (.reg [1] [] [
   ⟨some 1, .box 10 (.t 0), none⟩,
   ⟨some 2, .mv (.c (.v false (.bool false))), none⟩] none)
 (.seq (.reg [2] [] [
    ⟨some 3, .fad (.t 1) 0, none⟩,
    ⟨some 4, .ld false 1 (.t 3), none⟩,
    ⟨some 5, .bin .eql (.t 4) (.c (.v false (.int .i64 0))), none⟩,
    ⟨some 6, .mv (.t 5), none⟩,
    ⟨some 7, .fad (.t 1) 8, some (6, true)⟩,
    ⟨some 8, .ld false 1 (.t 7), some (6, true)⟩,
    ⟨some 9, .bin .eql (.t 8) (.c (.v false (.int .i64 0))), some (6, true)⟩,
    ⟨some 10, .pick (.t 6) (.t 9) (.c (.v false (.bool false))), none⟩,
    ⟨some 11, .mv (.t 10), none⟩,
    ⟨some 12, .fad (.t 1) 9, some (11, true)⟩,
    ⟨some 13, .ld false 1 (.t 12), some (11, true)⟩,
    ⟨some 14, .len (.t 13), some (11, true)⟩,
    ⟨some 15, .bin .eql (.t 14) (.c (.v false (.int .i64 0))), some (11, true)⟩,
    ⟨some 16, .pick (.t 11) (.t 15) (.c (.v false (.bool false))), none⟩,
    ⟨some 17, .mv (.t 16), none⟩,
    ⟨some 18, .fad (.t 1) 1, some (17, true)⟩,
    ⟨some 19, .fad (.t 18) 0, some (17, true)⟩,
    ⟨some 20, .ld false 1 (.t 19), some (17, true)⟩,
    ⟨some 21, .bin .eql (.t 20) (.c (.v false (.int .i64 0))), some (17, true)⟩,
    ⟨some 22, .pick (.t 17) (.t 21) (.c (.v false (.bool false))), none⟩,
    ⟨some 23, .mv (.t 22), none⟩,
    ⟨some 24, .fad (.t 1) 1, some (23, true)⟩,
    ⟨some 25, .fad (.t 24) 1, some (23, true)⟩,
    ⟨some 26, .ld false 1 (.t 25), some (23, true)⟩,
    ⟨some 27, .bin .eql (.t 26) (.c (.v false (.int .i64 0))), some (23, true)⟩,
    ⟨some 28, .pick (.t 23) (.t 27) (.c (.v false (.bool false))), none⟩,
    ⟨some 29, .mv (.t 28), none⟩,
    ⟨some 30, .fad (.t 1) 1, some (29, true)⟩,
    ⟨some 31, .fad (.t 30) 2, some (29, true)⟩,
    ⟨some 32, .ld false 1 (.t 31), some (29, true)⟩,
    ⟨some 33, .bin .eql (.t 32) (.c (.v false (.int .i64 0))), some (29, true)⟩,
    ⟨some 34, .pick (.t 29) (.t 33) (.c (.v false (.bool false))), none⟩,
    ⟨some 35, .mv (.t 34), none⟩,
    ⟨some 36, .fad (.t 1) 1, some (35, true)⟩,
    ⟨some 37, .fad (.t 36) 3, some (35, true)⟩,
    ⟨some 38, .ld true 3 (.t 37), some (35, true)⟩,
    ⟨some 39, .build [(.v false (.int .i64 0)), (.v false (.int .i64 0)), (.v false (.str ⟨#[]⟩))] [], some (35, true)⟩,
    ⟨some 40, .eqs false [0, 0, 2] (.t 38) (.t 39), some (35, true)⟩,
    ⟨some 41, .pick (.t 35) (.t 40) (.c (.v false (.bool false))), none⟩,
    ⟨some 42, .mv (.t 41), none⟩,
    ⟨some 43, .fad (.t 1) 1, some (42, true)⟩,
    ⟨some 44, .fad (.t 43) 6, some (42, true)⟩,
    ⟨some 45, .ld false 1 (.t 44), some (42, true)⟩,
    ⟨some 46, .len (.t 45), some (42, true)⟩,
    ⟨some 47, .bin .eql (.t 46) (.c (.v false (.int .i64 0))), some (42, true)⟩,
    ⟨some 48, .pick (.t 42) (.t 47) (.c (.v false (.bool false))), none⟩,
    ⟨some 2, .mv (.t 48), none⟩] none)
  (.ret))

def pf374 : PF := ⟨[.s 2], [], pb374⟩

-- loop.example/g00496/spec.l1Below
def pb375 : PC :=
.seq (.reg [0, 1] [] [
   ⟨some 4, .mv (.c (.v false (.int .i64 0))), none⟩] none)
 (.seq (.seq (.reg [0, 1, 9] [] [
     ⟨some 8, .mv (.t 1), none⟩,
     ⟨some 9, .bin .leq (.t 8) (.c (.v false (.int .i64 0))), none⟩] none)
   (.cond (.t 9) (.seq (.reg [0, 4] [] [
       ⟨some 4, .mv (.c (.v false (.int .i64 0))), none⟩] none)
     (.ret))
    (.skip)))
  (.seq (.seq (.reg [0, 1, 11] [] [
      ⟨some 10, .mv (.t 1), none⟩,
      ⟨some 11, .bin .leq (.t 10) (.c (.v false (.int .i64 256))), none⟩] none)
    (.cond (.t 11) (.seq (.reg [0, 4] [] [
        ⟨some 12, .mv (.t 0), none⟩,
        ⟨some 13, .call 376 [0] [(.t 12)], none⟩,
        ⟨some 14, .mv (.t 1), none⟩,
        ⟨some 15, .bin .rem (.t 13) (.t 14), none⟩,
        ⟨some 4, .mv (.t 15), none⟩] none)
      (.ret))
     (.skip)))
   (.seq (.reg [0, 1, 5] [(17, 5)] [
      ⟨some 16, .mv (.t 0), none⟩,
      ⟨some 17, .call 376 [0] [(.t 16)], none⟩,
      ⟨some 5, .mv (.t 17), none⟩] none)
    (.seq (.reg [0, 1, 5, 6] [(19, 6)] [
       ⟨some 18, .mv (.t 0), none⟩,
       ⟨some 19, .call 376 [0] [(.t 18)], none⟩,
       ⟨some 6, .mv (.t 19), none⟩] none)
     (.seq (.reg [0, 1, 5, 6, 7] [(21, 7)] [
        ⟨some 20, .mv (.t 0), none⟩,
        ⟨some 21, .call 376 [0] [(.t 20)], none⟩,
        ⟨some 7, .mv (.t 21), none⟩] none)
      (.seq (.reg [0, 4] [] [
         ⟨some 22, .mv (.t 5), none⟩,
         ⟨some 23, .bin .mul (.t 22) (.c (.v false (.int .i64 65536))), none⟩,
         ⟨some 24, .mv (.t 6), none⟩,
         ⟨some 25, .bin .mul (.t 24) (.c (.v false (.int .i64 256))), none⟩,
         ⟨some 26, .bin .add (.t 23) (.t 25), none⟩,
         ⟨some 27, .mv (.t 7), none⟩,
         ⟨some 28, .bin .add (.t 26) (.t 27), none⟩,
         ⟨some 29, .mv (.t 1), none⟩,
         ⟨some 30, .bin .rem (.t 28) (.t 29), none⟩,
         ⟨some 4, .mv (.t 30), none⟩] none)
       (.ret)))))))

def pf375 : PF := ⟨[.s 4], [0], pb375⟩

-- loop.example/g00496/spec.l1Byte
def pb376 : PC :=
.seq (.reg [0] [] [
   ⟨some 2, .mv (.c (.v false (.int .i64 0))), none⟩] none)
 (.seq (.reg [0] [] [
    ⟨some 4, .mv (.t 0), none⟩,
    ⟨some 5, .mv (.t 0), none⟩,
    ⟨some 6, .nck (.t 5), none⟩,
    ⟨some 7, .fad (.t 6) 2, none⟩,
    ⟨some 8, .ld false 1 (.t 7), none⟩,
    ⟨some 9, .bin .mul (.t 8) (.c (.v false (.int .i64 6364136223846793005))), none⟩,
    ⟨some 10, .bin .add (.t 9) (.c (.v false (.int .i64 1442695040888963407))), none⟩,
    ⟨some 11, .nck (.t 4), none⟩,
    ⟨some 12, .fad (.t 11) 2, none⟩,
    ⟨none, .st 1 (.t 12) (.t 10), none⟩] none)
  (.seq (.reg [0, 3] [] [
     ⟨some 13, .mv (.t 0), none⟩,
     ⟨some 14, .nck (.t 13), none⟩,
     ⟨some 15, .fad (.t 14) 2, none⟩,
     ⟨some 16, .ld false 1 (.t 15), none⟩,
     ⟨some 17, .bin .shr (.t 16) (.c (.v false (.int .u64 33))), none⟩,
     ⟨some 18, .mv (.t 0), none⟩,
     ⟨some 19, .nck (.t 18), none⟩,
     ⟨some 20, .fad (.t 19) 2, none⟩,
     ⟨some 21, .ld false 1 (.t 20), none⟩,
     ⟨some 22, .bin .shr (.t 21) (.c (.v false (.int .u64 47))), none⟩,
     ⟨some 23, .bin .xor (.t 17) (.t 22), none⟩,
     ⟨some 24, .bin .and (.t 23) (.c (.v false (.int .i64 255))), none⟩,
     ⟨some 3, .mv (.t 24), none⟩] (some []))
   (.seq (.seq (.reg [0, 3, 34] [] [
       ⟨some 25, .mv (.t 0), none⟩,
       ⟨some 26, .nck (.t 25), none⟩,
       ⟨some 27, .fad (.t 26) 1, none⟩,
       ⟨some 28, .ld false 1 (.t 27), none⟩,
       ⟨some 29, .mv (.t 0), none⟩,
       ⟨some 30, .nck (.t 29), none⟩,
       ⟨some 31, .fad (.t 30) 0, none⟩,
       ⟨some 32, .ld false 1 (.t 31), none⟩,
       ⟨some 33, .len (.t 32), none⟩,
       ⟨some 34, .bin .lss (.t 28) (.t 33), none⟩] (some []))
     (.cond (.t 34) (.seq (.reg [0, 3] [] [
         ⟨some 35, .mv (.t 3), none⟩,
         ⟨some 36, .mv (.t 0), none⟩,
         ⟨some 37, .nck (.t 36), none⟩,
         ⟨some 38, .fad (.t 37) 0, none⟩,
         ⟨some 39, .ld false 1 (.t 38), none⟩,
         ⟨some 40, .mv (.t 0), none⟩,
         ⟨some 41, .nck (.t 40), none⟩,
         ⟨some 42, .fad (.t 41) 1, none⟩,
         ⟨some 43, .ld false 1 (.t 42), none⟩,
         ⟨some 44, .iad 1 (.t 39) (.t 43), none⟩,
         ⟨some 45, .ld false 1 (.t 44), none⟩,
         ⟨some 46, .cvi .i64 (.t 45), none⟩,
         ⟨some 47, .bin .add (.t 35) (.t 46), none⟩,
         ⟨some 48, .bin .and (.t 47) (.c (.v false (.int .i64 255))), none⟩,
         ⟨some 3, .mv (.t 48), none⟩] (some []))
       (.reg [0, 3] [] [
         ⟨some 49, .mv (.t 0), none⟩,
         ⟨some 50, .mv (.t 0), none⟩,
         ⟨some 51, .nck (.t 50), none⟩,
         ⟨some 52, .fad (.t 51) 1, none⟩,
         ⟨some 53, .ld false 1 (.t 52), none⟩,
         ⟨some 54, .bin .add (.t 53) (.c (.v false (.int .i64 1))), none⟩,
         ⟨some 55, .nck (.t 49), none⟩,
         ⟨some 56, .fad (.t 55) 1, none⟩,
         ⟨none, .st 1 (.t 56) (.t 54), none⟩] none))
      (.skip)))
    (.seq (.reg [0, 2] [] [
       ⟨some 57, .mv (.t 3), none⟩,
       ⟨some 2, .mv (.t 57), none⟩] none)
     (.ret)))))

def pf376 : PF := ⟨[.s 2], [0], pb376⟩

-- loop.example/g00496/spec.l1In
def pb377 : PC :=
.seq (.reg [0, 1, 2] [] [
   ⟨some 6, .mv (.c (.v false (.bool false))), none⟩] none)
 (.seq (.reg [6] [] [
    ⟨some 7, .mv (.t 0), none⟩,
    ⟨some 8, .mv (.t 1), none⟩,
    ⟨some 9, .bin .geq (.t 7) (.t 8), none⟩,
    ⟨some 10, .mv (.t 9), none⟩,
    ⟨some 11, .mv (.t 0), some (10, true)⟩,
    ⟨some 12, .mv (.t 2), some (10, true)⟩,
    ⟨some 13, .bin .leq (.t 11) (.t 12), some (10, true)⟩,
    ⟨some 14, .pick (.t 10) (.t 13) (.c (.v false (.bool false))), none⟩,
    ⟨some 6, .mv (.t 14), none⟩] none)
  (.ret))

def pf377 : PF := ⟨[.s 6], [], pb377⟩

-- loop.example/g00496/spec.l1Int
def pb378 : PC :=
.seq (.reg [0, 1] [] [
   ⟨some 4, .mv (.c (.v false (.int .i64 0))), none⟩] none)
 (.seq (.reg [0, 4] [(9, 4)] [
    ⟨some 5, .mv (.t 1), none⟩,
    ⟨some 6, .mv (.t 0), none⟩,
    ⟨some 7, .mv (.t 1), none⟩,
    ⟨some 8, .len (.t 7), none⟩,
    ⟨some 9, .call 375 [0] [(.t 6), (.t 8)], none⟩,
    ⟨some 10, .iad 1 (.t 5) (.t 9), none⟩,
    ⟨some 11, .ld false 1 (.t 10), none⟩,
    ⟨some 4, .mv (.t 11), none⟩] none)
  (.ret))

def pf378 : PF := ⟨[.s 4], [0], pb378⟩

-- loop.example/g00496/spec.l1New
def pl379_0 : PC :=
.seq (.seq (.reg [0, 3, 4, 15] [] [
          ⟨some 8, .mv (.t 4), none⟩,
          ⟨some 9, .mv (.t 0), none⟩,
          ⟨some 10, .len (.t 9), none⟩,
          ⟨some 11, .bin .lss (.t 8) (.t 10), none⟩,
          ⟨some 12, .mv (.t 11), none⟩,
          ⟨some 13, .mv (.t 4), some (12, true)⟩,
          ⟨some 14, .bin .lss (.t 13) (.c (.v false (.int .i64 4000))), some (12, true)⟩,
          ⟨some 15, .pick (.t 12) (.t 14) (.c (.v false (.bool false))), none⟩] none)
        (.cond (.t 15) (.skip)
         (.exit 0)))
       (.seq (.blk 1 (.reg [0, 3, 4] [] [
           ⟨some 18, .mv (.t 3), none⟩,
           ⟨some 19, .bin .mul (.t 18) (.c (.v false (.int .i64 137))), none⟩,
           ⟨some 20, .mv (.t 0), none⟩,
           ⟨some 21, .mv (.t 4), none⟩,
           ⟨some 22, .iad 1 (.t 20) (.t 21), none⟩,
           ⟨some 23, .ld false 1 (.t 22), none⟩,
           ⟨some 24, .cvi .i64 (.t 23), none⟩,
           ⟨some 25, .bin .add (.t 19) (.t 24), none⟩,
           ⟨some 26, .bin .add (.t 25) (.c (.v false (.int .i64 11))), none⟩,
           ⟨some 27, .bin .and (.t 26) (.c (.v false (.int .i64 1073741823))), none⟩,
           ⟨some 3, .mv (.t 27), none⟩] none))
        (.reg [0, 3, 4] [] [
          ⟨some 16, .mv (.t 4), none⟩,
          ⟨some 17, .bin .add (.t 16) (.c (.v false (.int .i64 1))), none⟩,
          ⟨some 4, .mv (.t 17), none⟩] none))

def pb379 : PC :=
.seq (.reg [0] [] [
   ⟨some 2, .mv (.c (.un)), none⟩] none)
 (.seq (.reg [0, 3] [] [
    ⟨some 5, .mv (.t 0), none⟩,
    ⟨some 6, .len (.t 5), none⟩,
    ⟨some 7, .bin .add (.c (.v false (.int .i64 154242))) (.t 6), none⟩,
    ⟨some 3, .mv (.t 7), none⟩] none)
  (.seq (.seq (.reg [0, 3, 4] [] [
      ⟨some 4, .mv (.c (.v false (.int .i64 0))), none⟩] none)
    (.blk 0 (.loop pl379_0)))
   (.seq (.reg [2] [(31, 2)] [
      ⟨some 28, .mv (.t 0), none⟩,
      ⟨some 29, .mv (.t 3), none⟩,
      ⟨some 30, .build [(.nl 1), (.v false (.int .i64 0)), (.v false (.int .i64 0))] [(0, 1, (.t 28)), (2, 1, (.t 29))], none⟩,
      ⟨some 31, .box 3 (.t 30), none⟩,
      ⟨some 2, .mv (.t 31), none⟩] none)
    (.ret))))

def pf379 : PF := ⟨[.s 2], [], pb379⟩

-- loop.example/g00496/spec.l1Num
def pb380 : PC :=
.seq (.reg [0] [] [
   ⟨some 2, .mv (.c (.v false (.int .i64 0))), none⟩] none)
 (.seq (.seq (.reg [0, 4] [] [
     ⟨some 3, .mv (.t 0), none⟩,
     ⟨some 4, .call 375 [0] [(.t 3), (.c (.v false (.int .i64 5)))], none⟩] none)
   (.blk 0 (.seq (.reg [0, 4, 5] [] [
       ⟨some 6, .bin .eql (.t 4) (.c (.v false (.int .i64 0))), none⟩,
       ⟨some 5, .mv (.t 6), none⟩] none)
     (.cond (.t 5) (.seq (.reg [0, 2] [] [
         ⟨some 7, .mv (.t 0), none⟩,
         ⟨some 8, .call 375 [0] [(.t 7), (.c (.v false (.int .i64 300)))], none⟩,
         ⟨some 9, .bin .sub (.t 8) (.c (.v false (.int .i64 150))), none⟩,
         ⟨some 2, .mv (.t 9), none⟩] none)
       (.ret))
      (.seq (.reg [0, 4, 10] [] [
         ⟨some 11, .bin .eql (.t 4) (.c (.v false (.int .i64 1))), none⟩,
         ⟨some 10, .mv (.t 11), none⟩] none)
       (.cond (.t 10) (.seq (.reg [0, 2] [(14, 2)] [
           ⟨some 12, .mv (.t 0), none⟩,
           ⟨some 13, .bsl 1 [.int .i64 0, .int .i64 0, .int .i64 0, .int .i64 0, .int .i64 0, .int .i64 0, .int .i64 0, .int .i64 0, .int .i64 0, .int .i64 0, .int .i64 0, .int .i64 0] 12 [(0, (.c (.v false (.int .i64 0)))), (1, (.c (.v false (.int .i64 (-1))))), (2, (.c (.v false (.int .i64 1)))), (3, (.c (.v false (.int .i64 63)))), (4, (.c (.v false (.int .i64 64)))), (5, (.c (.v false (.int .i64 (-64))))), (6, (.c (.v false (.int .i64 (-65))))), (7, (.c (.v false (.int .i64 8191)))), (8, (.c (.v false (.int .i64 8192)))), (9, (.c (.v false (.int .i64 1000000000)))), (10, (.c (.v false (.int .i64 (-1000000000))))), (11, (.c (.v false (.int .i64 999999999))))], none⟩,
           ⟨some 14, .call 378 [0] [(.t 12), (.t 13)], none⟩,
           ⟨some 2, .mv (.t 14), none⟩] none)
         (.ret))
        (.seq (.reg [0, 15] [] [
           ⟨some 16, .bin .eql (.t 4) (.c (.v false (.int .i64 2))), none⟩,
           ⟨some 15, .mv (.t 16), none⟩] none)
         (.cond (.t 15) (.seq (.reg [0, 2] [] [
             ⟨some 17, .mv (.t 0), none⟩,
             ⟨some 18, .call 375 [0] [(.t 17), (.c (.v false (.int .i64 30000)))], none⟩,
             ⟨some 19, .mv (.t 0), none⟩,
             ⟨some 20, .call 375 [0] [(.t 19), (.c (.v false (.int .i64 30000)))], none⟩,
             ⟨some 21, .bin .sub (.t 20) (.c (.v false (.int .i64 15000))), none⟩,
             ⟨some 22, .bin .mul (.t 18) (.t 21), none⟩,
             ⟨some 2, .mv (.t 22), none⟩] none)
           (.ret))
          (.skip)))))))))
  (.seq (.reg [0, 2] [] [
     ⟨some 23, .mv (.t 0), none⟩,
     ⟨some 24, .call 375 [0] [(.t 23), (.c (.v false (.int .i64 20)))], none⟩,
     ⟨some 25, .bin .sub (.t 24) (.c (.v false (.int .i64 5))), none⟩,
     ⟨some 2, .mv (.t 25), none⟩] none)
   (.ret)))

def pf380 : PF := ⟨[.s 2], [0], pb380⟩

-- loop.example/g00496/spec.l1Once
def pb382 : PC :=
.seq (.reg [0, 1] [] [
   ⟨some 4, .mv (.c (.v false (.bool false))), none⟩] none)
 (.seq (.reg [0, 4] [] [
    ⟨some 5, .mv (.t 0), none⟩,
    ⟨some 6, .mv (.t 1), none⟩,
    ⟨some 7, .call 375 [0] [(.t 5), (.t 6)], none⟩,
    ⟨some 8, .bin .eql (.t 7) (.c (.v false (.int .i64 0))), none⟩,
    ⟨some 4, .mv (.t 8), none⟩] none)
  (.ret))

def pf382 : PF := ⟨[.s 4], [0], pb382⟩

-- loop.example/g00496/spec.l1Right
def pb384 : PC :=
.seq (.reg [0] [] [
   ⟨some 2, .mv (.c (.v false (.bool false))), none⟩] none)
 (.seq (.reg [2] [(4, 2)] [
    ⟨some 3, .mv (.t 0), none⟩,
    ⟨some 4, .call 377 [] [(.t 3), (.c (.v false (.int .i64 (-1000000000)))), (.c (.v false (.int .i64 1000000000)))], none⟩,
    ⟨some 2, .mv (.t 4), none⟩] none)
  (.ret))

def pf384 : PF := ⟨[.s 2], [], pb384⟩

-- loop.example/g00496/spec.l1Str
def pb385 : PC :=
.seq (.reg [0, 1] [] [
   ⟨some 4, .mv (.c (.v false (.str ⟨#[]⟩))), none⟩] none)
 (.seq (.reg [0, 4] [(9, 4)] [
    ⟨some 5, .mv (.t 1), none⟩,
    ⟨some 6, .mv (.t 0), none⟩,
    ⟨some 7, .mv (.t 1), none⟩,
    ⟨some 8, .len (.t 7), none⟩,
    ⟨some 9, .call 375 [0] [(.t 6), (.t 8)], none⟩,
    ⟨some 10, .iad 1 (.t 5) (.t 9), none⟩,
    ⟨some 11, .ld false 1 (.t 10), none⟩,
    ⟨some 4, .mv (.t 11), none⟩] none)
  (.ret))

def pf385 : PF := ⟨[.s 4], [0], pb385⟩

-- loop.example/g00496/spec.l3Int
def pb395 : PC :=
.seq (.reg [0, 2] [] [
   ⟨some 2, .alloc [(.v false (.int .i64 0)), (.v false (.int .i64 0)), (.v false (.str ⟨#[]⟩))], none⟩] none)
 (.seq (.seq (.reg [0, 2, 4] [] [
     ⟨some 3, .mv (.t 0), none⟩,
     ⟨some 4, .call 382 [0] [(.t 3), (.c (.v false (.int .i64 4)))], none⟩] none)
   (.cond (.t 4) (.seq (.reg [0, 2] [] [
       ⟨some 5, .mv (.t 0), none⟩,
       ⟨some 6, .call 380 [0] [(.t 5)], none⟩,
       ⟨some 7, .build [(.v false (.int .i64 0)), (.v false (.int .i64 0)), (.v false (.str ⟨#[]⟩))] [(0, 1, (.c (.v false (.int .i64 1)))), (1, 1, (.t 6))], none⟩,
       ⟨none, .st 3 (.t 2) (.t 7), none⟩] none)
     (.ret))
    (.skip)))
  (.seq (.reg [0, 2] [] [
     ⟨some 8, .mv (.t 0), none⟩,
     ⟨some 9, .bsl 1 [.int .i64 0, .int .i64 0, .int .i64 0, .int .i64 0, .int .i64 0, .int .i64 0] 6 [(0, (.c (.v false (.int .i64 0)))), (1, (.c (.v false (.int .i64 1)))), (2, (.c (.v false (.int .i64 2)))), (3, (.c (.v false (.int .i64 3)))), (4, (.c (.v false (.int .i64 7)))), (5, (.c (.v false (.int .i64 (-1)))))], none⟩,
     ⟨some 10, .call 378 [0] [(.t 8), (.t 9)], none⟩,
     ⟨some 11, .build [(.v false (.int .i64 0)), (.v false (.int .i64 0)), (.v false (.str ⟨#[]⟩))] [(0, 1, (.c (.v false (.int .i64 1)))), (1, 1, (.t 10))], none⟩,
     ⟨none, .st 3 (.t 2) (.t 11), none⟩] none)
   (.ret)))

def pf395 : PF := ⟨[.b 2 3 true], [0], pb395⟩

-- loop.example/g00496/spec.l3Text
def pb396 : PC :=
.seq (.reg [0, 2] [] [
   ⟨some 2, .alloc [(.v false (.int .i64 0)), (.v false (.int .i64 0)), (.v false (.str ⟨#[]⟩))], none⟩] none)
 (.seq (.reg [0, 2] [] [
    ⟨some 3, .mv (.t 0), none⟩,
    ⟨some 4, .bsl 1 [.str ⟨#[]⟩, .str ⟨#[]⟩, .str ⟨#[]⟩, .str ⟨#[]⟩, .str ⟨#[]⟩, .str ⟨#[]⟩, .str ⟨#[]⟩, .str ⟨#[]⟩] 8 [(0, (.c (.v false (.str ⟨#[]⟩)))), (1, (.c (.v false (.str ⟨#[97]⟩)))), (2, (.c (.v false (.str ⟨#[98]⟩)))), (3, (.c (.v false (.str ⟨#[97, 98]⟩)))), (4, (.c (.v false (.str ⟨#[114, 101, 100]⟩)))), (5, (.c (.v false (.str ⟨#[98, 108, 117, 101]⟩)))), (6, (.c (.v false (.str ⟨#[103, 114, 101, 101, 110]⟩)))), (7, (.c (.v false (.str ⟨#[122, 122, 122, 122, 122, 122]⟩))))], none⟩,
    ⟨some 5, .call 385 [0] [(.t 3), (.t 4)], none⟩,
    ⟨some 6, .build [(.v false (.int .i64 0)), (.v false (.int .i64 0)), (.v false (.str ⟨#[]⟩))] [(0, 1, (.c (.v false (.int .i64 2)))), (2, 1, (.t 5))], none⟩,
    ⟨none, .st 3 (.t 2) (.t 6), none⟩] none)
  (.ret))

def pf396 : PF := ⟨[.b 2 3 true], [0], pb396⟩

-- loop.example/g00496/spec.l4Cols
def pb399 : PC :=
.seq (.reg [0] [] [
   ⟨some 2, .mv (.c (.nl 1)), none⟩] none)
 (.seq (.reg [0, 2, 9] [(11, 2)] [
    ⟨some 3, .bsl 1 [.int .i64 0] 1 [(0, (.c (.v false (.int .i64 1))))], none⟩,
    ⟨some 4, .bsl 1 [.int .i64 0] 1 [(0, (.c (.v false (.int .i64 2))))], none⟩,
    ⟨some 5, .bsl 1 [.int .i64 0, .int .i64 0] 2 [(0, (.c (.v false (.int .i64 1)))), (1, (.c (.v false (.int .i64 2))))], none⟩,
    ⟨some 6, .bsl 1 [.int .i64 0, .int .i64 0] 2 [(0, (.c (.v false (.int .i64 1)))), (1, (.c (.v false (.int .i64 1))))], none⟩,
    ⟨some 7, .bsl 1 [.int .i64 0, .int .i64 0] 2 [(0, (.c (.v false (.int .i64 2)))), (1, (.c (.v false (.int .i64 1))))], none⟩,
    ⟨some 8, .bsl 1 [.int .i64 0, .int .i64 0, .int .i64 0] 3 [(0, (.c (.v false (.int .i64 1)))), (1, (.c (.v false (.int .i64 2)))), (2, (.c (.v false (.int .i64 1))))], none⟩,
    ⟨some 9, .bsl 1 [.sl 1 [], .sl 1 [], .sl 1 [], .sl 1 [], .sl 1 [], .sl 1 []] 6 [(0, (.t 3)), (1, (.t 4)), (2, (.t 5)), (3, (.t 6)), (4, (.t 7)), (5, (.t 8))], none⟩,
    ⟨some 10, .mv (.t 0), none⟩,
    ⟨some 11, .call 375 [0] [(.t 10), (.c (.v false (.int .i64 6)))], none⟩,
    ⟨some 12, .iad 1 (.t 9) (.t 11), none⟩,
    ⟨some 13, .ld false 1 (.t 12), none⟩,
    ⟨some 2, .mv (.t 13), none⟩] none)
  (.ret))

def pf399 : PF := ⟨[.s 2], [0], pb399⟩

-- loop.example/g00496/spec.l4Vals
def pl401_0 : PC :=
.seq (.seq (.reg [0, 1, 5, 6, 11] [] [
          ⟨some 8, .mv (.t 6), none⟩,
          ⟨some 9, .mv (.t 1), none⟩,
          ⟨some 10, .len (.t 9), none⟩,
          ⟨some 11, .bin .lss (.t 8) (.t 10), none⟩] none)
        (.cond (.t 11) (.skip)
         (.exit 0)))
       (.seq (.blk 1 (.seq (.reg [0, 1, 5, 6, 18] [] [
            ⟨some 14, .mv (.t 1), none⟩,
            ⟨some 15, .mv (.t 6), none⟩,
            ⟨some 16, .iad 1 (.t 14) (.t 15), none⟩,
            ⟨some 17, .ld false 1 (.t 16), none⟩,
            ⟨some 18, .bin .eql (.t 17) (.c (.v false (.int .i64 1))), none⟩] none)
          (.cond (.t 18) (.reg [0, 1, 5, 6] [(23, 5)] [
             ⟨some 19, .mv (.t 5), none⟩,
             ⟨some 20, .mv (.t 0), none⟩,
             ⟨some 21, .call 395 [0] [(.t 20)], none⟩,
             ⟨some 22, .bsl 3 [.int .i64 0, .int .i64 0, .str ⟨#[]⟩] 1 [(0, (.t 21))], none⟩,
             ⟨some 23, .app 3 32 (.t 19) (.t 22), none⟩,
             ⟨some 5, .mv (.t 23), none⟩] none)
           (.reg [0, 1, 5, 6] [(28, 5)] [
             ⟨some 24, .mv (.t 5), none⟩,
             ⟨some 25, .mv (.t 0), none⟩,
             ⟨some 26, .call 396 [0] [(.t 25)], none⟩,
             ⟨some 27, .bsl 3 [.int .i64 0, .int .i64 0, .str ⟨#[]⟩] 1 [(0, (.t 26))], none⟩,
             ⟨some 28, .app 3 32 (.t 24) (.t 27), none⟩,
             ⟨some 5, .mv (.t 28), none⟩] none))))
        (.reg [0, 1, 5, 6] [] [
          ⟨some 12, .mv (.t 6), none⟩,
          ⟨some 13, .bin .add (.t 12) (.c (.v false (.int .i64 1))), none⟩,
          ⟨some 6, .mv (.t 13), none⟩] none))

def pb401 : PC :=
.seq (.reg [0, 1] [] [
   ⟨some 4, .mv (.c (.nl 3)), none⟩] none)
 (.seq (.reg [0, 1, 5] [(7, 5)] [
    ⟨some 7, .bsl 3 [] 0 [], none⟩,
    ⟨some 5, .mv (.t 7), none⟩] none)
  (.seq (.seq (.reg [0, 1, 5, 6] [] [
      ⟨some 6, .mv (.c (.v false (.int .i64 0))), none⟩] none)
    (.blk 0 (.loop pl401_0)))
   (.seq (.reg [0, 4, 5] [] [
      ⟨some 29, .mv (.t 5), none⟩,
      ⟨some 4, .mv (.t 29), none⟩] none)
    (.ret))))

def pf401 : PF := ⟨[.s 4], [0], pb401⟩

end Go.Proofs.Ytkgibccknlbiaaa.OM
