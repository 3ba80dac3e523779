/- The texts of the functions, as the own machine runs them. -/
import Derived.Test.YtnadnanmgakkfaaOMDef
set_option linter.all false
namespace Go.Proofs.Ytnadnanmgakkfaa.OM
set_option maxRecDepth 100000

-- loop.example/g00496/impl.ColsOk
def pl12_0 : PC :=
.seq (.reg [0, 5, 6, 7, 8] [] [
        ⟨some 8, .bin .lss (.t 7) (.t 6), none⟩] none)
      (.seq (.cond (.t 8) (.skip)
        (.exit 0))
       (.seq (.blk 1 (.seq (.reg [0, 4, 5, 6, 7] [] [
            ⟨some 9, .iad 1 (.t 5) (.t 7), none⟩,
            ⟨some 10, .ld false 1 (.t 9), none⟩,
            ⟨some 4, .mv (.t 10), none⟩] none)
          (.seq (.reg [0, 5, 6, 7, 16] [] [
             ⟨some 11, .mv (.t 4), none⟩,
             ⟨some 12, .bin .neq (.t 11) (.c (.v false (.int .i64 1))), none⟩,
             ⟨some 13, .mv (.t 12), none⟩,
             ⟨some 14, .mv (.t 4), some (13, true)⟩,
             ⟨some 15, .bin .neq (.t 14) (.c (.v false (.int .i64 2))), some (13, true)⟩,
             ⟨some 16, .pick (.t 13) (.t 15) (.c (.v false (.bool false))), none⟩] none)
           (.cond (.t 16) (.seq (.reg [2] [] [
               ⟨some 2, .mv (.c (.v false (.bool false))), none⟩] none)
             (.ret))
            (.skip)))))
        (.reg [0, 5, 6, 7] [] [
          ⟨some 17, .bin .add (.t 7) (.c (.v false (.int .i64 1))), none⟩,
          ⟨some 7, .mv (.t 17), none⟩] none)))

def pb12 : PC :=
.seq (.reg [0] [] [
   ⟨some 2, .mv (.c (.v false (.bool false))), none⟩] none)
 (.seq (.seq (.reg [0, 5, 6, 7] [] [
     ⟨some 5, .mv (.t 0), none⟩,
     ⟨some 6, .len (.t 5), none⟩,
     ⟨some 7, .mv (.c (.v false (.int .i64 0))), none⟩] none)
   (.blk 0 (.loop pl12_0)))
  (.seq (.reg [2] [(20, 2)] [
     ⟨some 18, .mv (.t 0), none⟩,
     ⟨some 19, .len (.t 18), none⟩,
     ⟨some 20, .call 87 [] [(.t 19), (.c (.v false (.int .i64 1))), (.c (.v false (.int .i64 3)))], none⟩,
     ⟨some 2, .mv (.t 20), none⟩] none)
   (.ret)))

def pf12 : PF := ⟨[.s 2], [], pb12⟩

-- loop.example/g00496/impl.ConfOk
def pb13 : PC :=
.seq (.reg [1] [] [
   ⟨some 1, .box 3 (.t 0), none⟩,
   ⟨some 2, .mv (.c (.v false (.bool false))), none⟩] none)
 (.seq (.reg [2, 9, 14] [(5, 2)] [
    ⟨some 3, .fad (.t 1) 0, none⟩,
    ⟨some 4, .ld false 1 (.t 3), none⟩,
    ⟨some 5, .call 12 [] [(.t 4)], none⟩,
    ⟨some 6, .mv (.t 5), none⟩,
    ⟨some 7, .fad (.t 1) 1, some (6, true)⟩,
    ⟨some 8, .ld false 1 (.t 7), some (6, true)⟩,
    ⟨some 9, .call 87 [] [(.t 8), (.c (.v false (.int .i64 1))), (.c (.v false (.int .i64 4)))], some (6, true)⟩,
    ⟨some 10, .pick (.t 6) (.t 9) (.c (.v false (.bool false))), none⟩,
    ⟨some 11, .mv (.t 10), none⟩,
    ⟨some 12, .fad (.t 1) 2, some (11, true)⟩,
    ⟨some 13, .ld false 1 (.t 12), some (11, true)⟩,
    ⟨some 14, .call 87 [] [(.t 13), (.c (.v false (.int .i64 1))), (.c (.v false (.int .i64 8)))], some (11, true)⟩,
    ⟨some 15, .pick (.t 11) (.t 14) (.c (.v false (.bool false))), none⟩,
    ⟨some 2, .mv (.t 15), none⟩] none)
  (.ret))

def pf13 : PF := ⟨[.s 2], [], pb13⟩

-- loop.example/g00496/impl.PoolNew
def pb39 : PC :=
.seq (.reg [0] [] [
   ⟨some 2, .mv (.c (.nl 5)), none⟩] none)
 (.seq (.seq (.reg [0, 5] [] [
     ⟨some 3, .mv (.t 0), none⟩,
     ⟨some 4, .call 87 [] [(.t 3), (.c (.v false (.int .i64 0))), (.c (.v false (.int .i64 8)))], none⟩,
     ⟨some 5, .un .not (.t 4), none⟩] none)
   (.cond (.t 5) (.seq (.reg [2] [] [
       ⟨some 2, .mv (.c (.nl 5)), none⟩] none)
     (.ret))
    (.skip)))
  (.seq (.reg [2] [(7, 2)] [
     ⟨some 6, .mv (.t 0), none⟩,
     ⟨some 7, .mks 5 72 [.int .i64 0, .int .i64 0, .int .i64 0, .sl 2 [], .sl 1 []] (.t 6), none⟩,
     ⟨some 2, .mv (.t 7), none⟩] none)
   (.ret)))

def pf39 : PF := ⟨[.s 2], [], pb39⟩

-- loop.example/g00496/impl.WorldNew
def pl65_0 : PC :=
.seq (.reg [2, 3, 24, 25, 26] [] [
           ⟨some 26, .bin .lss (.t 25) (.t 24), none⟩] none)
         (.seq (.cond (.t 26) (.skip)
           (.exit 0))
          (.seq (.blk 1 (.reg [2, 3, 24, 25] [] [
              ⟨some 27, .fad (.t 3) 11, none⟩,
              ⟨some 28, .ld false 1 (.t 27), none⟩,
              ⟨some 29, .bsl 1 [.int .i64 0] 1 [(0, (.c (.v false (.int .i64 (-1)))))], none⟩,
              ⟨some 30, .app 1 8 (.t 28) (.t 29), none⟩,
              ⟨some 31, .fad (.t 3) 11, none⟩,
              ⟨none, .st 1 (.t 31) (.t 30), none⟩] none))
           (.reg [2, 3, 24, 25] [] [
             ⟨some 32, .bin .add (.t 25) (.c (.v false (.int .i64 1))), none⟩,
             ⟨some 25, .mv (.t 32), none⟩] none)))

def pb65 : PC :=
.seq (.reg [1, 2] [] [
   ⟨some 1, .box 3 (.t 0), none⟩,
   ⟨some 2, .alloc [(.nl 1), (.v false (.int .i64 0)), (.v false (.int .i64 0)), (.v false (.int .i64 0)), (.v false (.int .i64 0)), (.v false (.int .i64 0)), (.v false (.int .i64 0)), (.nl 5), (.nl 5), (.nl 1), (.nl 3), (.nl 1), (.nl 25), (.nl 25)], none⟩] none)
 (.seq (.seq (.reg [1, 2, 6] [] [
     ⟨some 4, .ld true 3 (.t 1), none⟩,
     ⟨some 5, .call 13 [] [(.t 4)], none⟩,
     ⟨some 6, .un .not (.t 5), none⟩] none)
   (.cond (.t 6) (.seq (.reg [2] [] [
       ⟨some 7, .build [(.nl 1), (.v false (.int .i64 0)), (.v false (.int .i64 0)), (.v false (.int .i64 0)), (.v false (.int .i64 0)), (.v false (.int .i64 0)), (.v false (.int .i64 0)), (.nl 5), (.nl 5), (.nl 1), (.nl 3), (.nl 1), (.nl 25), (.nl 25)] [], none⟩,
       ⟨none, .st 14 (.t 2) (.t 7), none⟩] none)
     (.ret))
    (.skip)))
  (.seq (.reg [2, 3] [] [
     ⟨some 8, .fad (.t 1) 0, none⟩,
     ⟨some 9, .ld false 1 (.t 8), none⟩,
     ⟨some 10, .call 72 [] [(.t 9)], none⟩,
     ⟨some 11, .fad (.t 1) 1, none⟩,
     ⟨some 12, .ld false 1 (.t 11), none⟩,
     ⟨some 13, .fad (.t 1) 2, none⟩,
     ⟨some 14, .ld false 1 (.t 13), none⟩,
     ⟨some 15, .build [(.nl 1), (.v false (.int .i64 0)), (.v false (.int .i64 0))] [(0, 1, (.t 10)), (1, 1, (.t 12)), (2, 1, (.t 14))], none⟩,
     ⟨some 16, .fad (.t 1) 2, none⟩,
     ⟨some 17, .ld false 1 (.t 16), none⟩,
     ⟨some 18, .call 39 [] [(.t 17)], none⟩,
     ⟨some 19, .build [(.nl 1), (.v false (.int .i64 0)), (.v false (.int .i64 0)), (.v false (.int .i64 0)), (.v false (.int .i64 0)), (.v false (.int .i64 0)), (.v false (.int .i64 0)), (.nl 5), (.nl 5), (.nl 1), (.nl 3), (.nl 1), (.nl 25), (.nl 25)] [(0, 3, (.t 15)), (4, 1, (.c (.v false (.int .i64 1)))), (8, 1, (.t 18))], none⟩,
     ⟨some 3, .alloc [(.nl 1), (.v false (.int .i64 0)), (.v false (.int .i64 0)), (.v false (.int .i64 0)), (.v false (.int .i64 0)), (.v false (.int .i64 0)), (.v false (.int .i64 0)), (.nl 5), (.nl 5), (.nl 1), (.nl 3), (.nl 1), (.nl 25), (.nl 25)], none⟩,
     ⟨none, .st 14 (.t 3) (.t 19), none⟩] (some [(2, 4), (2, 6), (2, 9), (4, 10), (6, 10), (1, 12), (2, 12), (4, 12), (6, 12), (9, 12), (10, 12)]))
   (.seq (.reg [2, 3] [] [
      ⟨some 20, .mks 25 288 [.int .i64 0, .int .i64 0, .int .i64 0, .sl 3 [], .int .i64 0, .int .i64 0, .int .i64 0, .int .i64 0, .int .i64 0, .int .i64 0, .int .i64 0, .str ⟨#[]⟩, .sl 7 [], .int .i64 0, .sl 1 [], .int .i64 0, .int .i64 0, .sl 5 [], .int .i64 0, .int .i64 0, .int .i64 0, .int .i64 0, .int .i64 0, .bool false, .sl 2 []] (.c (.v false (.int .i64 5))), none⟩,
      ⟨some 21, .fad (.t 3) 12, none⟩,
      ⟨none, .st 1 (.t 21) (.t 20), none⟩] none)
    (.seq (.seq (.reg [2, 3, 24, 25] [] [
        ⟨some 22, .fad (.t 3) 12, none⟩,
        ⟨some 23, .ld false 1 (.t 22), none⟩,
        ⟨some 24, .len (.t 23), none⟩,
        ⟨some 25, .mv (.c (.v false (.int .i64 0))), none⟩] none)
      (.blk 0 (.loop pl65_0)))
     (.seq (.reg [2] [] [
        ⟨some 33, .ld true 14 (.t 3), none⟩,
        ⟨none, .st 14 (.t 2) (.t 33), none⟩] none)
      (.ret))))))

def pf65 : PF := ⟨[.b 2 14 true], [], pb65⟩

-- loop.example/g00496/impl.cloneInts
def pb72 : PC :=
.seq (.reg [0] [] [
   ⟨some 2, .mv (.c (.nl 1)), none⟩] none)
 (.seq (.reg [2] [(5, 2)] [
    ⟨some 3, .bsl 1 [] 0 [], none⟩,
    ⟨some 4, .mv (.t 0), none⟩,
    ⟨some 5, .app 1 8 (.t 3) (.t 4), none⟩,
    ⟨some 2, .mv (.t 5), none⟩] none)
  (.ret))

def pf72 : PF := ⟨[.s 2], [], pb72⟩

-- loop.example/g00496/impl.within
def pb87 : PC :=
.seq (.reg [0, 1, 2] [] [
   ⟨some 6, .mv (.c (.v false (.bool false))), none⟩] none)
 (.seq (.reg [6] [] [
    ⟨some 7, .mv (.t 0), none⟩,
    ⟨some 8, .mv (.t 1), none⟩,
    ⟨some 9, .bin .geq (.t 7) (.t 8), none⟩,
    ⟨some 10, .mv (.t 9), none⟩,
    ⟨some 11, .mv (.t 0), some (10, true)⟩,
    ⟨some 12, .mv (.t 2), some (10, true)⟩,
    ⟨some 13, .bin .leq (.t 11) (.t 12), some (10, true)⟩,
    ⟨some 14, .pick (.t 10) (.t 13) (.c (.v false (.bool false))), none⟩,
    ⟨some 6, .mv (.t 14), none⟩] none)
  (.ret))

def pf87 : PF := ⟨[.s 6], [], pb87⟩

-- loop.example/g00496/laws.FnExactWorldNew
def pb137 : PC :=
.seq (.reg [1] [] [
   ⟨some 1, .box 3 (.t 0), none⟩,
   ⟨some 2, .mv (.c (.v false (.bool false))), none⟩] none)
 (.seq (.reg [1, 3] [] [
    ⟨some 3, .mv (.c (.v false (.int .i64 1048576))), none⟩] none)
  (.seq (.reg [1, 3] [(13, 3)] [
     ⟨some 11, .ld true 3 (.t 1), none⟩,
     ⟨some 12, .mv (.t 3), none⟩,
     ⟨some 13, .call 214 [] [(.t 11), (.t 12)], none⟩,
     ⟨some 3, .mv (.t 13), none⟩] none)
   (.seq (.seq (.reg [1, 15] [] [
       ⟨some 14, .mv (.t 3), none⟩,
       ⟨some 15, .bin .lss (.t 14) (.c (.v false (.int .i64 0))), none⟩] none)
     (.cond (.t 15) (.seq (.reg [2] [] [
         ⟨some 2, .mv (.c (.v false (.bool true))), none⟩] none)
       (.ret))
      (.skip)))
    (.seq (.reg [1, 4] [] [
       ⟨some 16, .ld true 3 (.t 1), none⟩,
       ⟨some 17, .call 238 [] [(.t 16)], none⟩,
       ⟨some 18, .call 346 [] [(.t 17)], none⟩,
       ⟨some 4, .alloc [(.nl 1), (.v false (.int .i64 0)), (.v false (.int .i64 0)), (.v false (.int .i64 0)), (.v false (.int .i64 0)), (.v false (.int .i64 0)), (.v false (.int .i64 0)), (.nl 5), (.nl 5), (.nl 1), (.nl 3), (.nl 1), (.nl 25), (.nl 25)], none⟩,
       ⟨none, .st 14 (.t 4) (.t 18), none⟩] none)
     (.seq (.reg [1, 4, 5] [] [
        ⟨some 19, .ld true 3 (.t 1), none⟩,
        ⟨some 20, .call 238 [] [(.t 19)], none⟩,
        ⟨some 5, .alloc [(.nl 1), (.v false (.int .i64 0)), (.v false (.int .i64 0))], none⟩,
        ⟨none, .st 3 (.t 5) (.t 20), none⟩] none)
      (.seq (.reg [1, 4, 5, 6] [] [
         ⟨some 21, .ld true 3 (.t 5), none⟩,
         ⟨some 22, .call 65 [] [(.t 21)], none⟩,
         ⟨some 6, .alloc [(.nl 1), (.v false (.int .i64 0)), (.v false (.int .i64 0)), (.v false (.int .i64 0)), (.v false (.int .i64 0)), (.v false (.int .i64 0)), (.v false (.int .i64 0)), (.nl 5), (.nl 5), (.nl 1), (.nl 3), (.nl 1), (.nl 25), (.nl 25)], none⟩,
         ⟨none, .st 14 (.t 6) (.t 22), none⟩] none)
       (.seq (.seq (.reg [1, 4, 5, 6, 26] [] [
           ⟨some 23, .ld true 14 (.t 6), none⟩,
           ⟨some 24, .ld true 14 (.t 4), none⟩,
           ⟨some 25, .call 167 [] [(.t 23), (.t 24)], none⟩,
           ⟨some 26, .un .not (.t 25), none⟩] none)
         (.cond (.t 26) (.seq (.reg [2] [] [
             ⟨some 2, .mv (.c (.v false (.bool false))), none⟩] none)
           (.ret))
          (.skip)))
        (.seq (.seq (.reg [1, 4, 5, 6, 31] [] [
            ⟨some 27, .ld true 3 (.t 5), none⟩,
            ⟨some 28, .ld true 3 (.t 1), none⟩,
            ⟨some 29, .call 238 [] [(.t 28)], none⟩,
            ⟨some 30, .call 146 [] [(.t 27), (.t 29)], none⟩,
            ⟨some 31, .un .not (.t 30), none⟩] (some [(0, 2)]))
          (.cond (.t 31) (.seq (.reg [2] [] [
              ⟨some 2, .mv (.c (.v false (.bool false))), none⟩] none)
            (.ret))
           (.skip)))
         (.seq (.reg [1, 4, 5, 6, 7] [] [
            ⟨some 7, .mv (.c (.v false (.int .i64 1))), none⟩] none)
          (.seq (.reg [1, 4, 6, 7] [(34, 7)] [
             ⟨some 32, .ld true 3 (.t 5), none⟩,
             ⟨some 33, .mv (.t 7), none⟩,
             ⟨some 34, .call 186 [0] [(.t 32), (.t 33)], none⟩,
             ⟨some 7, .mv (.t 34), none⟩] none)
           (.seq (.seq (.reg [1, 4, 6, 42] [] [
               ⟨some 35, .mv (.t 7), none⟩,
               ⟨some 36, .bin .lss (.t 35) (.c (.v false (.int .i64 0))), none⟩,
               ⟨some 37, .mv (.t 36), none⟩,
               ⟨some 38, .ld true 14 (.t 6), some (37, false)⟩,
               ⟨some 39, .ld true 14 (.t 4), some (37, false)⟩,
               ⟨some 40, .call 167 [] [(.t 38), (.t 39)], some (37, false)⟩,
               ⟨some 41, .un .not (.t 40), some (37, false)⟩,
               ⟨some 42, .pick (.t 37) (.c (.v false (.bool true))) (.t 41), none⟩] none)
             (.cond (.t 42) (.seq (.reg [2] [] [
                 ⟨some 2, .mv (.c (.v false (.bool false))), none⟩] none)
               (.ret))
              (.skip)))
            (.seq (.reg [1, 4, 6, 8] [] [
               ⟨some 8, .mv (.c (.v false (.int .i64 1))), none⟩] none)
             (.seq (.reg [1, 4, 6, 8] [(45, 8)] [
                ⟨some 43, .ld true 14 (.t 6), none⟩,
                ⟨some 44, .mv (.t 8), none⟩,
                ⟨some 45, .call 198 [0] [(.t 43), (.t 44)], none⟩,
                ⟨some 8, .mv (.t 45), none⟩] none)
              (.seq (.reg [1, 4, 6, 8, 9] [] [
                 ⟨some 9, .mv (.c (.v false (.int .i64 1))), none⟩] none)
               (.seq (.reg [1, 4, 6, 8, 9] [(48, 9)] [
                  ⟨some 46, .ld true 14 (.t 6), none⟩,
                  ⟨some 47, .mv (.t 9), none⟩,
                  ⟨some 48, .call 182 [] [(.t 46), (.t 47)], none⟩,
                  ⟨some 9, .mv (.t 48), none⟩] none)
                (.seq (.seq (.reg [1, 4, 6, 8, 9, 50] [] [
                    ⟨some 49, .mv (.t 9), none⟩,
                    ⟨some 50, .bin .lss (.t 49) (.c (.v false (.int .i64 0))), none⟩] none)
                  (.cond (.t 50) (.seq (.reg [2] [] [
                      ⟨some 2, .mv (.c (.v false (.bool false))), none⟩] none)
                    (.ret))
                   (.skip)))
                 (.seq (.seq (.reg [1, 4, 6, 8, 53] [] [
                     ⟨some 51, .mv (.t 9), none⟩,
                     ⟨some 52, .mv (.t 8), none⟩,
                     ⟨some 53, .bin .neq (.t 51) (.t 52), none⟩] none)
                   (.cond (.t 53) (.seq (.reg [2] [] [
                       ⟨some 2, .mv (.c (.v false (.bool false))), none⟩] none)
                     (.ret))
                    (.skip)))
                  (.seq (.reg [4, 6, 8, 10] [] [
                     ⟨some 54, .ld true 3 (.t 1), none⟩,
                     ⟨some 55, .call 238 [] [(.t 54)], none⟩,
                     ⟨some 56, .call 65 [] [(.t 55)], none⟩,
                     ⟨some 10, .alloc [(.nl 1), (.v false (.int .i64 0)), (.v false (.int .i64 0)), (.v false (.int .i64 0)), (.v false (.int .i64 0)), (.v false (.int .i64 0)), (.v false (.int .i64 0)), (.nl 5), (.nl 5), (.nl 1), (.nl 3), (.nl 1), (.nl 25), (.nl 25)], none⟩,
                     ⟨none, .st 14 (.t 10) (.t 56), none⟩] none)
                   (.seq (.seq (.reg [6, 8, 60] [] [
                       ⟨some 57, .ld true 14 (.t 10), none⟩,
                       ⟨some 58, .ld true 14 (.t 4), none⟩,
                       ⟨some 59, .call 167 [] [(.t 57), (.t 58)], none⟩,
                       ⟨some 60, .un .not (.t 59), none⟩] none)
                     (.cond (.t 60) (.seq (.reg [2] [] [
                         ⟨some 2, .mv (.c (.v false (.bool false))), none⟩] none)
                       (.ret))
                      (.skip)))
                    (.seq (.reg [6, 8, 9] [] [
                       ⟨some 9, .mv (.c (.v false (.int .i64 1))), none⟩] none)
                     (.seq (.reg [8, 9] [(63, 9)] [
                        ⟨some 61, .ld true 14 (.t 6), none⟩,
                        ⟨some 62, .mv (.t 9), none⟩,
                        ⟨some 63, .call 182 [] [(.t 61), (.t 62)], none⟩,
                        ⟨some 9, .mv (.t 63), none⟩] none)
                      (.seq (.seq (.reg [8, 9, 65] [] [
                          ⟨some 64, .mv (.t 9), none⟩,
                          ⟨some 65, .bin .lss (.t 64) (.c (.v false (.int .i64 0))), none⟩] none)
                        (.cond (.t 65) (.seq (.reg [2] [] [
                            ⟨some 2, .mv (.c (.v false (.bool false))), none⟩] none)
                          (.ret))
                         (.skip)))
                       (.seq (.seq (.reg [68] [] [
                           ⟨some 66, .mv (.t 9), none⟩,
                           ⟨some 67, .mv (.t 8), none⟩,
                           ⟨some 68, .bin .neq (.t 66) (.t 67), none⟩] none)
                         (.cond (.t 68) (.seq (.reg [2] [] [
                             ⟨some 2, .mv (.c (.v false (.bool false))), none⟩] none)
                           (.ret))
                          (.skip)))
                        (.seq (.reg [2] [] [
                           ⟨some 2, .mv (.c (.v false (.bool true))), none⟩] none)
                         (.ret)))))))))))))))))))))))))

def pf137 : PF := ⟨[.s 2], [], pb137⟩

-- loop.example/g00496/laws.eqBuf
def pb142 : PC :=
.seq (.reg [2, 3] [] [
   ⟨some 2, .box 5 (.t 0), none⟩,
   ⟨some 3, .box 5 (.t 1), none⟩,
   ⟨some 4, .mv (.c (.v false (.bool false))), none⟩] none)
 (.seq (.seq (.reg [2, 3, 9] [] [
     ⟨some 5, .fad (.t 2) 0, none⟩,
     ⟨some 6, .ld false 1 (.t 5), none⟩,
     ⟨some 7, .fad (.t 3) 0, none⟩,
     ⟨some 8, .ld false 1 (.t 7), none⟩,
     ⟨some 9, .bin .neq (.t 6) (.t 8), none⟩] none)
   (.cond (.t 9) (.seq (.reg [4] [] [
       ⟨some 4, .mv (.c (.v false (.bool false))), none⟩] none)
     (.ret))
    (.skip)))
  (.seq (.seq (.reg [2, 3, 14] [] [
      ⟨some 10, .fad (.t 2) 1, none⟩,
      ⟨some 11, .ld false 1 (.t 10), none⟩,
      ⟨some 12, .fad (.t 3) 1, none⟩,
      ⟨some 13, .ld false 1 (.t 12), none⟩,
      ⟨some 14, .bin .neq (.t 11) (.t 13), none⟩] none)
    (.cond (.t 14) (.seq (.reg [4] [] [
        ⟨some 4, .mv (.c (.v false (.bool false))), none⟩] none)
      (.ret))
     (.skip)))
   (.seq (.seq (.reg [2, 3, 20] [] [
       ⟨some 15, .fad (.t 2) 2, none⟩,
       ⟨some 16, .ld true 2 (.t 15), none⟩,
       ⟨some 17, .fad (.t 3) 2, none⟩,
       ⟨some 18, .ld true 2 (.t 17), none⟩,
       ⟨some 19, .call 145 [] [(.t 16), (.t 18)], none⟩,
       ⟨some 20, .un .not (.t 19), none⟩] none)
     (.cond (.t 20) (.seq (.reg [4] [] [
         ⟨some 4, .mv (.c (.v false (.bool false))), none⟩] none)
       (.ret))
      (.skip)))
    (.seq (.seq (.reg [26] [] [
        ⟨some 21, .fad (.t 2) 4, none⟩,
        ⟨some 22, .ld false 1 (.t 21), none⟩,
        ⟨some 23, .fad (.t 3) 4, none⟩,
        ⟨some 24, .ld false 1 (.t 23), none⟩,
        ⟨some 25, .call 144 [] [(.t 22), (.t 24)], none⟩,
        ⟨some 26, .un .not (.t 25), none⟩] none)
      (.cond (.t 26) (.seq (.reg [4] [] [
          ⟨some 4, .mv (.c (.v false (.bool false))), none⟩] none)
        (.ret))
       (.skip)))
     (.seq (.reg [4] [] [
        ⟨some 4, .mv (.c (.v false (.bool true))), none⟩] none)
      (.ret))))))

def pf142 : PF := ⟨[.s 4], [], pb142⟩

-- loop.example/g00496/laws.eqBufS
def pl143_0 : PC :=
.seq (.seq (.reg [0, 1, 5, 14] [] [
          ⟨some 11, .mv (.t 5), none⟩,
          ⟨some 12, .mv (.t 0), none⟩,
          ⟨some 13, .len (.t 12), none⟩,
          ⟨some 14, .bin .lss (.t 11) (.t 13), none⟩] none)
        (.cond (.t 14) (.skip)
         (.exit 0)))
       (.seq (.blk 1 (.seq (.reg [0, 1, 5, 26] [] [
            ⟨some 17, .mv (.t 0), none⟩,
            ⟨some 18, .mv (.t 5), none⟩,
            ⟨some 19, .iad 5 (.t 17) (.t 18), none⟩,
            ⟨some 20, .ld true 5 (.t 19), none⟩,
            ⟨some 21, .mv (.t 1), none⟩,
            ⟨some 22, .mv (.t 5), none⟩,
            ⟨some 23, .iad 5 (.t 21) (.t 22), none⟩,
            ⟨some 24, .ld true 5 (.t 23), none⟩,
            ⟨some 25, .call 142 [] [(.t 20), (.t 24)], none⟩,
            ⟨some 26, .un .not (.t 25), none⟩] (some []))
          (.cond (.t 26) (.seq (.reg [4] [] [
              ⟨some 4, .mv (.c (.v false (.bool false))), none⟩] none)
            (.ret))
           (.skip))))
        (.reg [0, 1, 5] [] [
          ⟨some 15, .mv (.t 5), none⟩,
          ⟨some 16, .bin .add (.t 15) (.c (.v false (.int .i64 1))), none⟩,
          ⟨some 5, .mv (.t 16), none⟩] none))

def pb143 : PC :=
.seq (.reg [0, 1] [] [
   ⟨some 4, .mv (.c (.v false (.bool false))), none⟩] none)
 (.seq (.seq (.reg [0, 1, 10] [] [
     ⟨some 6, .mv (.t 0), none⟩,
     ⟨some 7, .len (.t 6), none⟩,
     ⟨some 8, .mv (.t 1), none⟩,
     ⟨some 9, .len (.t 8), none⟩,
     ⟨some 10, .bin .neq (.t 7) (.t 9), none⟩] none)
   (.cond (.t 10) (.seq (.reg [4] [] [
       ⟨some 4, .mv (.c (.v false (.bool false))), none⟩] none)
     (.ret))
    (.skip)))
  (.seq (.seq (.reg [0, 1, 5] [] [
      ⟨some 5, .mv (.c (.v false (.int .i64 0))), none⟩] none)
    (.blk 0 (.loop pl143_0)))
   (.seq (.reg [4] [] [
      ⟨some 4, .mv (.c (.v false (.bool true))), none⟩] none)
    (.ret))))

def pf143 : PF := ⟨[.s 4], [], pb143⟩

-- loop.example/g00496/laws.eqByteS
def pl144_0 : PC :=
.seq (.seq (.reg [0, 1, 5, 14] [] [
          ⟨some 11, .mv (.t 5), none⟩,
          ⟨some 12, .mv (.t 0), none⟩,
          ⟨some 13, .len (.t 12), none⟩,
          ⟨some 14, .bin .lss (.t 11) (.t 13), none⟩] none)
        (.cond (.t 14) (.skip)
         (.exit 0)))
       (.seq (.blk 1 (.seq (.reg [0, 1, 5, 25] [] [
            ⟨some 17, .mv (.t 0), none⟩,
            ⟨some 18, .mv (.t 5), none⟩,
            ⟨some 19, .iad 1 (.t 17) (.t 18), none⟩,
            ⟨some 20, .ld false 1 (.t 19), none⟩,
            ⟨some 21, .mv (.t 1), none⟩,
            ⟨some 22, .mv (.t 5), none⟩,
            ⟨some 23, .iad 1 (.t 21) (.t 22), none⟩,
            ⟨some 24, .ld false 1 (.t 23), none⟩,
            ⟨some 25, .bin .neq (.t 20) (.t 24), none⟩] (some []))
          (.cond (.t 25) (.seq (.reg [4] [] [
              ⟨some 4, .mv (.c (.v false (.bool false))), none⟩] none)
            (.ret))
           (.skip))))
        (.reg [0, 1, 5] [] [
          ⟨some 15, .mv (.t 5), none⟩,
          ⟨some 16, .bin .add (.t 15) (.c (.v false (.int .i64 1))), none⟩,
          ⟨some 5, .mv (.t 16), none⟩] none))

def pb144 : PC :=
.seq (.reg [0, 1] [] [
   ⟨some 4, .mv (.c (.v false (.bool false))), none⟩] none)
 (.seq (.seq (.reg [0, 1, 10] [] [
     ⟨some 6, .mv (.t 0), none⟩,
     ⟨some 7, .len (.t 6), none⟩,
     ⟨some 8, .mv (.t 1), none⟩,
     ⟨some 9, .len (.t 8), none⟩,
     ⟨some 10, .bin .neq (.t 7) (.t 9), none⟩] none)
   (.cond (.t 10) (.seq (.reg [4] [] [
       ⟨some 4, .mv (.c (.v false (.bool false))), none⟩] none)
     (.ret))
    (.skip)))
  (.seq (.seq (.reg [0, 1, 5] [] [
      ⟨some 5, .mv (.c (.v false (.int .i64 0))), none⟩] none)
    (.blk 0 (.loop pl144_0)))
   (.seq (.reg [4] [] [
      ⟨some 4, .mv (.c (.v false (.bool true))), none⟩] none)
    (.ret))))

def pf144 : PF := ⟨[.s 4], [], pb144⟩

-- loop.example/g00496/laws.eqChunk
def pb145 : PC :=
.seq (.reg [2, 3] [] [
   ⟨some 2, .box 2 (.t 0), none⟩,
   ⟨some 3, .box 2 (.t 1), none⟩,
   ⟨some 4, .mv (.c (.v false (.bool false))), none⟩] none)
 (.seq (.seq (.reg [2, 3, 9] [] [
     ⟨some 5, .fad (.t 2) 0, none⟩,
     ⟨some 6, .ld false 1 (.t 5), none⟩,
     ⟨some 7, .fad (.t 3) 0, none⟩,
     ⟨some 8, .ld false 1 (.t 7), none⟩,
     ⟨some 9, .bin .neq (.t 6) (.t 8), none⟩] none)
   (.cond (.t 9) (.seq (.reg [4] [] [
       ⟨some 4, .mv (.c (.v false (.bool false))), none⟩] none)
     (.ret))
    (.skip)))
  (.seq (.seq (.reg [15] [] [
      ⟨some 10, .fad (.t 2) 1, none⟩,
      ⟨some 11, .ld false 1 (.t 10), none⟩,
      ⟨some 12, .fad (.t 3) 1, none⟩,
      ⟨some 13, .ld false 1 (.t 12), none⟩,
      ⟨some 14, .call 162 [] [(.t 11), (.t 13)], none⟩,
      ⟨some 15, .un .not (.t 14), none⟩] none)
    (.cond (.t 15) (.seq (.reg [4] [] [
        ⟨some 4, .mv (.c (.v false (.bool false))), none⟩] none)
      (.ret))
     (.skip)))
   (.seq (.reg [4] [] [
      ⟨some 4, .mv (.c (.v false (.bool true))), none⟩] none)
    (.ret))))

def pf145 : PF := ⟨[.s 4], [], pb145⟩

-- loop.example/g00496/laws.eqConf
def pb146 : PC :=
.seq (.reg [2, 3] [] [
   ⟨some 2, .box 3 (.t 0), none⟩,
   ⟨some 3, .box 3 (.t 1), none⟩,
   ⟨some 4, .mv (.c (.v false (.bool false))), none⟩] none)
 (.seq (.seq (.reg [2, 3, 10] [] [
     ⟨some 5, .fad (.t 2) 0, none⟩,
     ⟨some 6, .ld false 1 (.t 5), none⟩,
     ⟨some 7, .fad (.t 3) 0, none⟩,
     ⟨some 8, .ld false 1 (.t 7), none⟩,
     ⟨some 9, .call 152 [] [(.t 6), (.t 8)], none⟩,
     ⟨some 10, .un .not (.t 9), none⟩] none)
   (.cond (.t 10) (.seq (.reg [4] [] [
       ⟨some 4, .mv (.c (.v false (.bool false))), none⟩] none)
     (.ret))
    (.skip)))
  (.seq (.seq (.reg [2, 3, 15] [] [
      ⟨some 11, .fad (.t 2) 1, none⟩,
      ⟨some 12, .ld false 1 (.t 11), none⟩,
      ⟨some 13, .fad (.t 3) 1, none⟩,
      ⟨some 14, .ld false 1 (.t 13), none⟩,
      ⟨some 15, .bin .neq (.t 12) (.t 14), none⟩] none)
    (.cond (.t 15) (.seq (.reg [4] [] [
        ⟨some 4, .mv (.c (.v false (.bool false))), none⟩] none)
      (.ret))
     (.skip)))
   (.seq (.seq (.reg [20] [] [
       ⟨some 16, .fad (.t 2) 2, none⟩,
       ⟨some 17, .ld false 1 (.t 16), none⟩,
       ⟨some 18, .fad (.t 3) 2, none⟩,
       ⟨some 19, .ld false 1 (.t 18), none⟩,
       ⟨some 20, .bin .neq (.t 17) (.t 19), none⟩] none)
     (.cond (.t 20) (.seq (.reg [4] [] [
         ⟨some 4, .mv (.c (.v false (.bool false))), none⟩] none)
       (.ret))
      (.skip)))
    (.seq (.reg [4] [] [
       ⟨some 4, .mv (.c (.v false (.bool true))), none⟩] none)
     (.ret)))))

def pf146 : PF := ⟨[.s 4], [], pb146⟩

-- loop.example/g00496/laws.eqDead
def pb147 : PC :=
.seq (.reg [2, 3] [] [
   ⟨some 2, .box 3 (.t 0), none⟩,
   ⟨some 3, .box 3 (.t 1), none⟩,
   ⟨some 4, .mv (.c (.v false (.bool false))), none⟩] none)
 (.seq (.seq (.reg [2, 3, 9] [] [
     ⟨some 5, .fad (.t 2) 0, none⟩,
     ⟨some 6, .ld false 1 (.t 5), none⟩,
     ⟨some 7, .fad (.t 3) 0, none⟩,
     ⟨some 8, .ld false 1 (.t 7), none⟩,
     ⟨some 9, .bin .neq (.t 6) (.t 8), none⟩] none)
   (.cond (.t 9) (.seq (.reg [4] [] [
       ⟨some 4, .mv (.c (.v false (.bool false))), none⟩] none)
     (.ret))
    (.skip)))
  (.seq (.seq (.reg [2, 3, 14] [] [
      ⟨some 10, .fad (.t 2) 1, none⟩,
      ⟨some 11, .ld false 1 (.t 10), none⟩,
      ⟨some 12, .fad (.t 3) 1, none⟩,
      ⟨some 13, .ld false 1 (.t 12), none⟩,
      ⟨some 14, .bin .neq (.t 11) (.t 13), none⟩] none)
    (.cond (.t 14) (.seq (.reg [4] [] [
        ⟨some 4, .mv (.c (.v false (.bool false))), none⟩] none)
      (.ret))
     (.skip)))
   (.seq (.seq (.reg [19] [] [
       ⟨some 15, .fad (.t 2) 2, none⟩,
       ⟨some 16, .ld false 1 (.t 15), none⟩,
       ⟨some 17, .fad (.t 3) 2, none⟩,
       ⟨some 18, .ld false 1 (.t 17), none⟩,
       ⟨some 19, .bin .neq (.t 16) (.t 18), none⟩] none)
     (.cond (.t 19) (.seq (.reg [4] [] [
         ⟨some 4, .mv (.c (.v false (.bool false))), none⟩] none)
       (.ret))
      (.skip)))
    (.seq (.reg [4] [] [
       ⟨some 4, .mv (.c (.v false (.bool true))), none⟩] none)
     (.ret)))))

def pf147 : PF := ⟨[.s 4], [], pb147⟩

-- loop.example/g00496/laws.eqDeadS
def pl148_0 : PC :=
.seq (.seq (.reg [0, 1, 5, 14] [] [
          ⟨some 11, .mv (.t 5), none⟩,
          ⟨some 12, .mv (.t 0), none⟩,
          ⟨some 13, .len (.t 12), none⟩,
          ⟨some 14, .bin .lss (.t 11) (.t 13), none⟩] none)
        (.cond (.t 14) (.skip)
         (.exit 0)))
       (.seq (.blk 1 (.seq (.reg [0, 1, 5, 26] [] [
            ⟨some 17, .mv (.t 0), none⟩,
            ⟨some 18, .mv (.t 5), none⟩,
            ⟨some 19, .iad 3 (.t 17) (.t 18), none⟩,
            ⟨some 20, .ld true 3 (.t 19), none⟩,
            ⟨some 21, .mv (.t 1), none⟩,
            ⟨some 22, .mv (.t 5), none⟩,
            ⟨some 23, .iad 3 (.t 21) (.t 22), none⟩,
            ⟨some 24, .ld true 3 (.t 23), none⟩,
            ⟨some 25, .call 147 [] [(.t 20), (.t 24)], none⟩,
            ⟨some 26, .un .not (.t 25), none⟩] (some []))
          (.cond (.t 26) (.seq (.reg [4] [] [
              ⟨some 4, .mv (.c (.v false (.bool false))), none⟩] none)
            (.ret))
           (.skip))))
        (.reg [0, 1, 5] [] [
          ⟨some 15, .mv (.t 5), none⟩,
          ⟨some 16, .bin .add (.t 15) (.c (.v false (.int .i64 1))), none⟩,
          ⟨some 5, .mv (.t 16), none⟩] none))

def pb148 : PC :=
.seq (.reg [0, 1] [] [
   ⟨some 4, .mv (.c (.v false (.bool false))), none⟩] none)
 (.seq (.seq (.reg [0, 1, 10] [] [
     ⟨some 6, .mv (.t 0), none⟩,
     ⟨some 7, .len (.t 6), none⟩,
     ⟨some 8, .mv (.t 1), none⟩,
     ⟨some 9, .len (.t 8), none⟩,
     ⟨some 10, .bin .neq (.t 7) (.t 9), none⟩] none)
   (.cond (.t 10) (.seq (.reg [4] [] [
       ⟨some 4, .mv (.c (.v false (.bool false))), none⟩] none)
     (.ret))
    (.skip)))
  (.seq (.seq (.reg [0, 1, 5] [] [
      ⟨some 5, .mv (.c (.v false (.int .i64 0))), none⟩] none)
    (.blk 0 (.loop pl148_0)))
   (.seq (.reg [4] [] [
      ⟨some 4, .mv (.c (.v false (.bool true))), none⟩] none)
    (.ret))))

def pf148 : PF := ⟨[.s 4], [], pb148⟩

-- loop.example/g00496/laws.eqDeed
def pb149 : PC :=
.seq (.reg [2, 3] [] [
   ⟨some 2, .box 25 (.t 0), none⟩,
   ⟨some 3, .box 25 (.t 1), none⟩,
   ⟨some 4, .mv (.c (.v false (.bool false))), none⟩] none)
 (.seq (.seq (.reg [2, 3, 9] [] [
     ⟨some 5, .fad (.t 2) 0, none⟩,
     ⟨some 6, .ld false 1 (.t 5), none⟩,
     ⟨some 7, .fad (.t 3) 0, none⟩,
     ⟨some 8, .ld false 1 (.t 7), none⟩,
     ⟨some 9, .bin .neq (.t 6) (.t 8), none⟩] none)
   (.cond (.t 9) (.seq (.reg [4] [] [
       ⟨some 4, .mv (.c (.v false (.bool false))), none⟩] none)
     (.ret))
    (.skip)))
  (.seq (.seq (.reg [2, 3, 14] [] [
      ⟨some 10, .fad (.t 2) 1, none⟩,
      ⟨some 11, .ld false 1 (.t 10), none⟩,
      ⟨some 12, .fad (.t 3) 1, none⟩,
      ⟨some 13, .ld false 1 (.t 12), none⟩,
      ⟨some 14, .bin .neq (.t 11) (.t 13), none⟩] none)
    (.cond (.t 14) (.seq (.reg [4] [] [
        ⟨some 4, .mv (.c (.v false (.bool false))), none⟩] none)
      (.ret))
     (.skip)))
   (.seq (.seq (.reg [2, 3, 20] [] [
       ⟨some 15, .fad (.t 2) 2, none⟩,
       ⟨some 16, .ld false 1 (.t 15), none⟩,
       ⟨some 17, .fad (.t 3) 2, none⟩,
       ⟨some 18, .ld false 1 (.t 17), none⟩,
       ⟨some 19, .call 166 [] [(.t 16), (.t 18)], none⟩,
       ⟨some 20, .un .not (.t 19), none⟩] none)
     (.cond (.t 20) (.seq (.reg [4] [] [
         ⟨some 4, .mv (.c (.v false (.bool false))), none⟩] none)
       (.ret))
      (.skip)))
    (.seq (.seq (.reg [2, 3, 25] [] [
        ⟨some 21, .fad (.t 2) 3, none⟩,
        ⟨some 22, .ld false 1 (.t 21), none⟩,
        ⟨some 23, .fad (.t 3) 3, none⟩,
        ⟨some 24, .ld false 1 (.t 23), none⟩,
        ⟨some 25, .bin .neq (.t 22) (.t 24), none⟩] none)
      (.cond (.t 25) (.seq (.reg [4] [] [
          ⟨some 4, .mv (.c (.v false (.bool false))), none⟩] none)
        (.ret))
       (.skip)))
     (.seq (.seq (.reg [2, 3, 31] [] [
         ⟨some 26, .fad (.t 2) 4, none⟩,
         ⟨some 27, .ld true 10 (.t 26), none⟩,
         ⟨some 28, .fad (.t 3) 4, none⟩,
         ⟨some 29, .ld true 10 (.t 28), none⟩,
         ⟨some 30, .call 155 [] [(.t 27), (.t 29)], none⟩,
         ⟨some 31, .un .not (.t 30), none⟩] none)
       (.cond (.t 31) (.seq (.reg [4] [] [
           ⟨some 4, .mv (.c (.v false (.bool false))), none⟩] none)
         (.ret))
        (.skip)))
      (.seq (.seq (.reg [2, 3, 37] [] [
          ⟨some 32, .fad (.t 2) 14, none⟩,
          ⟨some 33, .ld true 6 (.t 32), none⟩,
          ⟨some 34, .fad (.t 3) 14, none⟩,
          ⟨some 35, .ld true 6 (.t 34), none⟩,
          ⟨some 36, .call 158 [] [(.t 33), (.t 35)], none⟩,
          ⟨some 37, .un .not (.t 36), none⟩] none)
        (.cond (.t 37) (.seq (.reg [4] [] [
            ⟨some 4, .mv (.c (.v false (.bool false))), none⟩] none)
          (.ret))
         (.skip)))
       (.seq (.seq (.reg [2, 3, 42] [] [
           ⟨some 38, .fad (.t 2) 20, none⟩,
           ⟨some 39, .ld false 1 (.t 38), none⟩,
           ⟨some 40, .fad (.t 3) 20, none⟩,
           ⟨some 41, .ld false 1 (.t 40), none⟩,
           ⟨some 42, .bin .neq (.t 39) (.t 41), none⟩] none)
         (.cond (.t 42) (.seq (.reg [4] [] [
             ⟨some 4, .mv (.c (.v false (.bool false))), none⟩] none)
           (.ret))
          (.skip)))
        (.seq (.seq (.reg [2, 3, 47] [] [
            ⟨some 43, .fad (.t 2) 21, none⟩,
            ⟨some 44, .ld false 1 (.t 43), none⟩,
            ⟨some 45, .fad (.t 3) 21, none⟩,
            ⟨some 46, .ld false 1 (.t 45), none⟩,
            ⟨some 47, .bin .neq (.t 44) (.t 46), none⟩] none)
          (.cond (.t 47) (.seq (.reg [4] [] [
              ⟨some 4, .mv (.c (.v false (.bool false))), none⟩] none)
            (.ret))
           (.skip)))
         (.seq (.seq (.reg [2, 3, 52] [] [
             ⟨some 48, .fad (.t 2) 22, none⟩,
             ⟨some 49, .ld false 1 (.t 48), none⟩,
             ⟨some 50, .fad (.t 3) 22, none⟩,
             ⟨some 51, .ld false 1 (.t 50), none⟩,
             ⟨some 52, .bin .neq (.t 49) (.t 51), none⟩] none)
           (.cond (.t 52) (.seq (.reg [4] [] [
               ⟨some 4, .mv (.c (.v false (.bool false))), none⟩] none)
             (.ret))
            (.skip)))
          (.seq (.seq (.reg [2, 3, 57] [] [
              ⟨some 53, .fad (.t 2) 23, none⟩,
              ⟨some 54, .ld false 1 (.t 53), none⟩,
              ⟨some 55, .fad (.t 3) 23, none⟩,
              ⟨some 56, .ld false 1 (.t 55), none⟩,
              ⟨some 57, .bin .neq (.t 54) (.t 56), none⟩] none)
            (.cond (.t 57) (.seq (.reg [4] [] [
                ⟨some 4, .mv (.c (.v false (.bool false))), none⟩] none)
              (.ret))
             (.skip)))
           (.seq (.seq (.reg [62] [] [
               ⟨some 58, .fad (.t 2) 24, none⟩,
               ⟨some 59, .ld false 1 (.t 58), none⟩,
               ⟨some 60, .fad (.t 3) 24, none⟩,
               ⟨some 61, .ld false 1 (.t 60), none⟩,
               ⟨some 62, .bin .neq (.t 59) (.t 61), none⟩] none)
             (.cond (.t 62) (.seq (.reg [4] [] [
                 ⟨some 4, .mv (.c (.v false (.bool false))), none⟩] none)
               (.ret))
              (.skip)))
            (.seq (.reg [4] [] [
               ⟨some 4, .mv (.c (.v false (.bool true))), none⟩] none)
             (.ret)))))))))))))

def pf149 : PF := ⟨[.s 4], [], pb149⟩

-- loop.example/g00496/laws.eqDeedS
def pl150_0 : PC :=
.seq (.seq (.reg [0, 1, 5, 14] [] [
          ⟨some 11, .mv (.t 5), none⟩,
          ⟨some 12, .mv (.t 0), none⟩,
          ⟨some 13, .len (.t 12), none⟩,
          ⟨some 14, .bin .lss (.t 11) (.t 13), none⟩] none)
        (.cond (.t 14) (.skip)
         (.exit 0)))
       (.seq (.blk 1 (.seq (.reg [0, 1, 5, 26] [] [
            ⟨some 17, .mv (.t 0), none⟩,
            ⟨some 18, .mv (.t 5), none⟩,
            ⟨some 19, .iad 25 (.t 17) (.t 18), none⟩,
            ⟨some 20, .ld true 25 (.t 19), none⟩,
            ⟨some 21, .mv (.t 1), none⟩,
            ⟨some 22, .mv (.t 5), none⟩,
            ⟨some 23, .iad 25 (.t 21) (.t 22), none⟩,
            ⟨some 24, .ld true 25 (.t 23), none⟩,
            ⟨some 25, .call 149 [] [(.t 20), (.t 24)], none⟩,
            ⟨some 26, .un .not (.t 25), none⟩] (some []))
          (.cond (.t 26) (.seq (.reg [4] [] [
              ⟨some 4, .mv (.c (.v false (.bool false))), none⟩] none)
            (.ret))
           (.skip))))
        (.reg [0, 1, 5] [] [
          ⟨some 15, .mv (.t 5), none⟩,
          ⟨some 16, .bin .add (.t 15) (.c (.v false (.int .i64 1))), none⟩,
          ⟨some 5, .mv (.t 16), none⟩] none))

def pb150 : PC :=
.seq (.reg [0, 1] [] [
   ⟨some 4, .mv (.c (.v false (.bool false))), none⟩] none)
 (.seq (.seq (.reg [0, 1, 10] [] [
     ⟨some 6, .mv (.t 0), none⟩,
     ⟨some 7, .len (.t 6), none⟩,
     ⟨some 8, .mv (.t 1), none⟩,
     ⟨some 9, .len (.t 8), none⟩,
     ⟨some 10, .bin .neq (.t 7) (.t 9), none⟩] none)
   (.cond (.t 10) (.seq (.reg [4] [] [
       ⟨some 4, .mv (.c (.v false (.bool false))), none⟩] none)
     (.ret))
    (.skip)))
  (.seq (.seq (.reg [0, 1, 5] [] [
      ⟨some 5, .mv (.c (.v false (.int .i64 0))), none⟩] none)
    (.blk 0 (.loop pl150_0)))
   (.seq (.reg [4] [] [
      ⟨some 4, .mv (.c (.v false (.bool true))), none⟩] none)
    (.ret))))

def pf150 : PF := ⟨[.s 4], [], pb150⟩

-- loop.example/g00496/laws.eqDir
def pb151 : PC :=
.seq (.reg [2, 3] [] [
   ⟨some 2, .box 2 (.t 0), none⟩,
   ⟨some 3, .box 2 (.t 1), none⟩,
   ⟨some 4, .mv (.c (.v false (.bool false))), none⟩] none)
 (.seq (.seq (.reg [2, 3, 9] [] [
     ⟨some 5, .fad (.t 2) 0, none⟩,
     ⟨some 6, .ld false 1 (.t 5), none⟩,
     ⟨some 7, .fad (.t 3) 0, none⟩,
     ⟨some 8, .ld false 1 (.t 7), none⟩,
     ⟨some 9, .bin .neq (.t 6) (.t 8), none⟩] none)
   (.cond (.t 9) (.seq (.reg [4] [] [
       ⟨some 4, .mv (.c (.v false (.bool false))), none⟩] none)
     (.ret))
    (.skip)))
  (.seq (.seq (.reg [15] [] [
      ⟨some 10, .fad (.t 2) 1, none⟩,
      ⟨some 11, .ld false 1 (.t 10), none⟩,
      ⟨some 12, .fad (.t 3) 1, none⟩,
      ⟨some 13, .ld false 1 (.t 12), none⟩,
      ⟨some 14, .call 157 [] [(.t 11), (.t 13)], none⟩,
      ⟨some 15, .un .not (.t 14), none⟩] none)
    (.cond (.t 15) (.seq (.reg [4] [] [
        ⟨some 4, .mv (.c (.v false (.bool false))), none⟩] none)
      (.ret))
     (.skip)))
   (.seq (.reg [4] [] [
      ⟨some 4, .mv (.c (.v false (.bool true))), none⟩] none)
    (.ret))))

def pf151 : PF := ⟨[.s 4], [], pb151⟩

-- loop.example/g00496/laws.eqIntS
def pl152_0 : PC :=
.seq (.seq (.reg [0, 1, 5, 14] [] [
          ⟨some 11, .mv (.t 5), none⟩,
          ⟨some 12, .mv (.t 0), none⟩,
          ⟨some 13, .len (.t 12), none⟩,
          ⟨some 14, .bin .lss (.t 11) (.t 13), none⟩] none)
        (.cond (.t 14) (.skip)
         (.exit 0)))
       (.seq (.blk 1 (.seq (.reg [0, 1, 5, 25] [] [
            ⟨some 17, .mv (.t 0), none⟩,
            ⟨some 18, .mv (.t 5), none⟩,
            ⟨some 19, .iad 1 (.t 17) (.t 18), none⟩,
            ⟨some 20, .ld false 1 (.t 19), none⟩,
            ⟨some 21, .mv (.t 1), none⟩,
            ⟨some 22, .mv (.t 5), none⟩,
            ⟨some 23, .iad 1 (.t 21) (.t 22), none⟩,
            ⟨some 24, .ld false 1 (.t 23), none⟩,
            ⟨some 25, .bin .neq (.t 20) (.t 24), none⟩] (some []))
          (.cond (.t 25) (.seq (.reg [4] [] [
              ⟨some 4, .mv (.c (.v false (.bool false))), none⟩] none)
            (.ret))
           (.skip))))
        (.reg [0, 1, 5] [] [
          ⟨some 15, .mv (.t 5), none⟩,
          ⟨some 16, .bin .add (.t 15) (.c (.v false (.int .i64 1))), none⟩,
          ⟨some 5, .mv (.t 16), none⟩] none))

def pb152 : PC :=
.seq (.reg [0, 1] [] [
   ⟨some 4, .mv (.c (.v false (.bool false))), none⟩] none)
 (.seq (.seq (.reg [0, 1, 10] [] [
     ⟨some 6, .mv (.t 0), none⟩,
     ⟨some 7, .len (.t 6), none⟩,
     ⟨some 8, .mv (.t 1), none⟩,
     ⟨some 9, .len (.t 8), none⟩,
     ⟨some 10, .bin .neq (.t 7) (.t 9), none⟩] none)
   (.cond (.t 10) (.seq (.reg [4] [] [
       ⟨some 4, .mv (.c (.v false (.bool false))), none⟩] none)
     (.ret))
    (.skip)))
  (.seq (.seq (.reg [0, 1, 5] [] [
      ⟨some 5, .mv (.c (.v false (.int .i64 0))), none⟩] none)
    (.blk 0 (.loop pl152_0)))
   (.seq (.reg [4] [] [
      ⟨some 4, .mv (.c (.v false (.bool true))), none⟩] none)
    (.ret))))

def pf152 : PF := ⟨[.s 4], [], pb152⟩

-- loop.example/g00496/laws.eqPred
def pb153 : PC :=
.seq (.reg [2, 3] [] [
   ⟨some 2, .box 7 (.t 0), none⟩,
   ⟨some 3, .box 7 (.t 1), none⟩,
   ⟨some 4, .mv (.c (.v false (.bool false))), none⟩] none)
 (.seq (.seq (.reg [2, 3, 9] [] [
     ⟨some 5, .fad (.t 2) 0, none⟩,
     ⟨some 6, .ld false 1 (.t 5), none⟩,
     ⟨some 7, .fad (.t 3) 0, none⟩,
     ⟨some 8, .ld false 1 (.t 7), none⟩,
     ⟨some 9, .bin .neq (.t 6) (.t 8), none⟩] none)
   (.cond (.t 9) (.seq (.reg [4] [] [
       ⟨some 4, .mv (.c (.v false (.bool false))), none⟩] none)
     (.ret))
    (.skip)))
  (.seq (.seq (.reg [2, 3, 14] [] [
      ⟨some 10, .fad (.t 2) 1, none⟩,
      ⟨some 11, .ld false 1 (.t 10), none⟩,
      ⟨some 12, .fad (.t 3) 1, none⟩,
      ⟨some 13, .ld false 1 (.t 12), none⟩,
      ⟨some 14, .bin .neq (.t 11) (.t 13), none⟩] none)
    (.cond (.t 14) (.seq (.reg [4] [] [
        ⟨some 4, .mv (.c (.v false (.bool false))), none⟩] none)
      (.ret))
     (.skip)))
   (.seq (.seq (.reg [2, 3, 19] [] [
       ⟨some 15, .fad (.t 2) 2, none⟩,
       ⟨some 16, .ld false 1 (.t 15), none⟩,
       ⟨some 17, .fad (.t 3) 2, none⟩,
       ⟨some 18, .ld false 1 (.t 17), none⟩,
       ⟨some 19, .bin .neq (.t 16) (.t 18), none⟩] none)
     (.cond (.t 19) (.seq (.reg [4] [] [
         ⟨some 4, .mv (.c (.v false (.bool false))), none⟩] none)
       (.ret))
      (.skip)))
    (.seq (.seq (.reg [2, 3, 25] [] [
        ⟨some 20, .fad (.t 2) 3, none⟩,
        ⟨some 21, .ld true 3 (.t 20), none⟩,
        ⟨some 22, .fad (.t 3) 3, none⟩,
        ⟨some 23, .ld true 3 (.t 22), none⟩,
        ⟨some 24, .call 165 [] [(.t 21), (.t 23)], none⟩,
        ⟨some 25, .un .not (.t 24), none⟩] none)
      (.cond (.t 25) (.seq (.reg [4] [] [
          ⟨some 4, .mv (.c (.v false (.bool false))), none⟩] none)
        (.ret))
       (.skip)))
     (.seq (.seq (.reg [31] [] [
         ⟨some 26, .fad (.t 2) 6, none⟩,
         ⟨some 27, .ld false 1 (.t 26), none⟩,
         ⟨some 28, .fad (.t 3) 6, none⟩,
         ⟨some 29, .ld false 1 (.t 28), none⟩,
         ⟨some 30, .call 154 [] [(.t 27), (.t 29)], none⟩,
         ⟨some 31, .un .not (.t 30), none⟩] none)
       (.cond (.t 31) (.seq (.reg [4] [] [
           ⟨some 4, .mv (.c (.v false (.bool false))), none⟩] none)
         (.ret))
        (.skip)))
      (.seq (.reg [4] [] [
         ⟨some 4, .mv (.c (.v false (.bool true))), none⟩] none)
       (.ret)))))))

def pf153 : PF := ⟨[.s 4], [], pb153⟩

-- loop.example/g00496/laws.eqPredS
def pl154_0 : PC :=
.seq (.seq (.reg [0, 1, 5, 14] [] [
          ⟨some 11, .mv (.t 5), none⟩,
          ⟨some 12, .mv (.t 0), none⟩,
          ⟨some 13, .len (.t 12), none⟩,
          ⟨some 14, .bin .lss (.t 11) (.t 13), none⟩] none)
        (.cond (.t 14) (.skip)
         (.exit 0)))
       (.seq (.blk 1 (.seq (.reg [0, 1, 5, 26] [] [
            ⟨some 17, .mv (.t 0), none⟩,
            ⟨some 18, .mv (.t 5), none⟩,
            ⟨some 19, .iad 7 (.t 17) (.t 18), none⟩,
            ⟨some 20, .ld true 7 (.t 19), none⟩,
            ⟨some 21, .mv (.t 1), none⟩,
            ⟨some 22, .mv (.t 5), none⟩,
            ⟨some 23, .iad 7 (.t 21) (.t 22), none⟩,
            ⟨some 24, .ld true 7 (.t 23), none⟩,
            ⟨some 25, .call 153 [] [(.t 20), (.t 24)], none⟩,
            ⟨some 26, .un .not (.t 25), none⟩] (some []))
          (.cond (.t 26) (.seq (.reg [4] [] [
              ⟨some 4, .mv (.c (.v false (.bool false))), none⟩] none)
            (.ret))
           (.skip))))
        (.reg [0, 1, 5] [] [
          ⟨some 15, .mv (.t 5), none⟩,
          ⟨some 16, .bin .add (.t 15) (.c (.v false (.int .i64 1))), none⟩,
          ⟨some 5, .mv (.t 16), none⟩] none))

def pb154 : PC :=
.seq (.reg [0, 1] [] [
   ⟨some 4, .mv (.c (.v false (.bool false))), none⟩] none)
 (.seq (.seq (.reg [0, 1, 10] [] [
     ⟨some 6, .mv (.t 0), none⟩,
     ⟨some 7, .len (.t 6), none⟩,
     ⟨some 8, .mv (.t 1), none⟩,
     ⟨some 9, .len (.t 8), none⟩,
     ⟨some 10, .bin .neq (.t 7) (.t 9), none⟩] none)
   (.cond (.t 10) (.seq (.reg [4] [] [
       ⟨some 4, .mv (.c (.v false (.bool false))), none⟩] none)
     (.ret))
    (.skip)))
  (.seq (.seq (.reg [0, 1, 5] [] [
      ⟨some 5, .mv (.c (.v false (.int .i64 0))), none⟩] none)
    (.blk 0 (.loop pl154_0)))
   (.seq (.reg [4] [] [
      ⟨some 4, .mv (.c (.v false (.bool true))), none⟩] none)
    (.ret))))

def pf154 : PF := ⟨[.s 4], [], pb154⟩

-- loop.example/g00496/laws.eqQuery
def pb155 : PC :=
.seq (.reg [2, 3] [] [
   ⟨some 2, .box 10 (.t 0), none⟩,
   ⟨some 3, .box 10 (.t 1), none⟩,
   ⟨some 4, .mv (.c (.v false (.bool false))), none⟩] none)
 (.seq (.seq (.reg [2, 3, 9] [] [
     ⟨some 5, .fad (.t 2) 0, none⟩,
     ⟨some 6, .ld false 1 (.t 5), none⟩,
     ⟨some 7, .fad (.t 3) 0, none⟩,
     ⟨some 8, .ld false 1 (.t 7), none⟩,
     ⟨some 9, .bin .neq (.t 6) (.t 8), none⟩] none)
   (.cond (.t 9) (.seq (.reg [4] [] [
       ⟨some 4, .mv (.c (.v false (.bool false))), none⟩] none)
     (.ret))
    (.skip)))
  (.seq (.seq (.reg [2, 3, 15] [] [
      ⟨some 10, .fad (.t 2) 1, none⟩,
      ⟨some 11, .ld true 7 (.t 10), none⟩,
      ⟨some 12, .fad (.t 3) 1, none⟩,
      ⟨some 13, .ld true 7 (.t 12), none⟩,
      ⟨some 14, .call 153 [] [(.t 11), (.t 13)], none⟩,
      ⟨some 15, .un .not (.t 14), none⟩] none)
    (.cond (.t 15) (.seq (.reg [4] [] [
        ⟨some 4, .mv (.c (.v false (.bool false))), none⟩] none)
      (.ret))
     (.skip)))
   (.seq (.seq (.reg [2, 3, 20] [] [
       ⟨some 16, .fad (.t 2) 8, none⟩,
       ⟨some 17, .ld false 1 (.t 16), none⟩,
       ⟨some 18, .fad (.t 3) 8, none⟩,
       ⟨some 19, .ld false 1 (.t 18), none⟩,
       ⟨some 20, .bin .neq (.t 17) (.t 19), none⟩] none)
     (.cond (.t 20) (.seq (.reg [4] [] [
         ⟨some 4, .mv (.c (.v false (.bool false))), none⟩] none)
       (.ret))
      (.skip)))
    (.seq (.seq (.reg [26] [] [
        ⟨some 21, .fad (.t 2) 9, none⟩,
        ⟨some 22, .ld false 1 (.t 21), none⟩,
        ⟨some 23, .fad (.t 3) 9, none⟩,
        ⟨some 24, .ld false 1 (.t 23), none⟩,
        ⟨some 25, .call 152 [] [(.t 22), (.t 24)], none⟩,
        ⟨some 26, .un .not (.t 25), none⟩] none)
      (.cond (.t 26) (.seq (.reg [4] [] [
          ⟨some 4, .mv (.c (.v false (.bool false))), none⟩] none)
        (.ret))
       (.skip)))
     (.seq (.reg [4] [] [
        ⟨some 4, .mv (.c (.v false (.bool true))), none⟩] none)
      (.ret))))))

def pf155 : PF := ⟨[.s 4], [], pb155⟩

-- loop.example/g00496/laws.eqRef
def pb156 : PC :=
.seq (.reg [2, 3] [] [
   ⟨some 2, .box 5 (.t 0), none⟩,
   ⟨some 3, .box 5 (.t 1), none⟩,
   ⟨some 4, .mv (.c (.v false (.bool false))), none⟩] none)
 (.seq (.seq (.reg [2, 3, 9] [] [
     ⟨some 5, .fad (.t 2) 0, none⟩,
     ⟨some 6, .ld false 1 (.t 5), none⟩,
     ⟨some 7, .fad (.t 3) 0, none⟩,
     ⟨some 8, .ld false 1 (.t 7), none⟩,
     ⟨some 9, .bin .neq (.t 6) (.t 8), none⟩] none)
   (.cond (.t 9) (.seq (.reg [4] [] [
       ⟨some 4, .mv (.c (.v false (.bool false))), none⟩] none)
     (.ret))
    (.skip)))
  (.seq (.seq (.reg [2, 3, 14] [] [
      ⟨some 10, .fad (.t 2) 1, none⟩,
      ⟨some 11, .ld false 1 (.t 10), none⟩,
      ⟨some 12, .fad (.t 3) 1, none⟩,
      ⟨some 13, .ld false 1 (.t 12), none⟩,
      ⟨some 14, .bin .neq (.t 11) (.t 13), none⟩] none)
    (.cond (.t 14) (.seq (.reg [4] [] [
        ⟨some 4, .mv (.c (.v false (.bool false))), none⟩] none)
      (.ret))
     (.skip)))
   (.seq (.seq (.reg [2, 3, 19] [] [
       ⟨some 15, .fad (.t 2) 2, none⟩,
       ⟨some 16, .ld false 1 (.t 15), none⟩,
       ⟨some 17, .fad (.t 3) 2, none⟩,
       ⟨some 18, .ld false 1 (.t 17), none⟩,
       ⟨some 19, .bin .neq (.t 16) (.t 18), none⟩] none)
     (.cond (.t 19) (.seq (.reg [4] [] [
         ⟨some 4, .mv (.c (.v false (.bool false))), none⟩] none)
       (.ret))
      (.skip)))
    (.seq (.seq (.reg [2, 3, 24] [] [
        ⟨some 20, .fad (.t 2) 3, none⟩,
        ⟨some 21, .ld false 1 (.t 20), none⟩,
        ⟨some 22, .fad (.t 3) 3, none⟩,
        ⟨some 23, .ld false 1 (.t 22), none⟩,
        ⟨some 24, .bin .neq (.t 21) (.t 23), none⟩] none)
      (.cond (.t 24) (.seq (.reg [4] [] [
          ⟨some 4, .mv (.c (.v false (.bool false))), none⟩] none)
        (.ret))
       (.skip)))
     (.seq (.seq (.reg [29] [] [
         ⟨some 25, .fad (.t 2) 4, none⟩,
         ⟨some 26, .ld false 1 (.t 25), none⟩,
         ⟨some 27, .fad (.t 3) 4, none⟩,
         ⟨some 28, .ld false 1 (.t 27), none⟩,
         ⟨some 29, .bin .neq (.t 26) (.t 28), none⟩] none)
       (.cond (.t 29) (.seq (.reg [4] [] [
           ⟨some 4, .mv (.c (.v false (.bool false))), none⟩] none)
         (.ret))
        (.skip)))
      (.seq (.reg [4] [] [
         ⟨some 4, .mv (.c (.v false (.bool true))), none⟩] none)
       (.ret)))))))

def pf156 : PF := ⟨[.s 4], [], pb156⟩

-- loop.example/g00496/laws.eqRefS
def pl157_0 : PC :=
.seq (.seq (.reg [0, 1, 5, 14] [] [
          ⟨some 11, .mv (.t 5), none⟩,
          ⟨some 12, .mv (.t 0), none⟩,
          ⟨some 13, .len (.t 12), none⟩,
          ⟨some 14, .bin .lss (.t 11) (.t 13), none⟩] none)
        (.cond (.t 14) (.skip)
         (.exit 0)))
       (.seq (.blk 1 (.seq (.reg [0, 1, 5, 26] [] [
            ⟨some 17, .mv (.t 0), none⟩,
            ⟨some 18, .mv (.t 5), none⟩,
            ⟨some 19, .iad 5 (.t 17) (.t 18), none⟩,
            ⟨some 20, .ld true 5 (.t 19), none⟩,
            ⟨some 21, .mv (.t 1), none⟩,
            ⟨some 22, .mv (.t 5), none⟩,
            ⟨some 23, .iad 5 (.t 21) (.t 22), none⟩,
            ⟨some 24, .ld true 5 (.t 23), none⟩,
            ⟨some 25, .call 156 [] [(.t 20), (.t 24)], none⟩,
            ⟨some 26, .un .not (.t 25), none⟩] (some []))
          (.cond (.t 26) (.seq (.reg [4] [] [
              ⟨some 4, .mv (.c (.v false (.bool false))), none⟩] none)
            (.ret))
           (.skip))))
        (.reg [0, 1, 5] [] [
          ⟨some 15, .mv (.t 5), none⟩,
          ⟨some 16, .bin .add (.t 15) (.c (.v false (.int .i64 1))), none⟩,
          ⟨some 5, .mv (.t 16), none⟩] none))

def pb157 : PC :=
.seq (.reg [0, 1] [] [
   ⟨some 4, .mv (.c (.v false (.bool false))), none⟩] none)
 (.seq (.seq (.reg [0, 1, 10] [] [
     ⟨some 6, .mv (.t 0), none⟩,
     ⟨some 7, .len (.t 6), none⟩,
     ⟨some 8, .mv (.t 1), none⟩,
     ⟨some 9, .len (.t 8), none⟩,
     ⟨some 10, .bin .neq (.t 7) (.t 9), none⟩] none)
   (.cond (.t 10) (.seq (.reg [4] [] [
       ⟨some 4, .mv (.c (.v false (.bool false))), none⟩] none)
     (.ret))
    (.skip)))
  (.seq (.seq (.reg [0, 1, 5] [] [
      ⟨some 5, .mv (.c (.v false (.int .i64 0))), none⟩] none)
    (.blk 0 (.loop pl157_0)))
   (.seq (.reg [4] [] [
      ⟨some 4, .mv (.c (.v false (.bool true))), none⟩] none)
    (.ret))))

def pf157 : PF := ⟨[.s 4], [], pb157⟩

-- loop.example/g00496/laws.eqResult
def pb158 : PC :=
.seq (.reg [2, 3] [] [
   ⟨some 2, .box 6 (.t 0), none⟩,
   ⟨some 3, .box 6 (.t 1), none⟩,
   ⟨some 4, .mv (.c (.v false (.bool false))), none⟩] none)
 (.seq (.seq (.reg [2, 3, 10] [] [
     ⟨some 5, .fad (.t 2) 0, none⟩,
     ⟨some 6, .ld false 1 (.t 5), none⟩,
     ⟨some 7, .fad (.t 3) 0, none⟩,
     ⟨some 8, .ld false 1 (.t 7), none⟩,
     ⟨some 9, .call 160 [] [(.t 6), (.t 8)], none⟩,
     ⟨some 10, .un .not (.t 9), none⟩] none)
   (.cond (.t 10) (.seq (.reg [4] [] [
       ⟨some 4, .mv (.c (.v false (.bool false))), none⟩] none)
     (.ret))
    (.skip)))
  (.seq (.seq (.reg [2, 3, 15] [] [
      ⟨some 11, .fad (.t 2) 1, none⟩,
      ⟨some 12, .ld false 1 (.t 11), none⟩,
      ⟨some 13, .fad (.t 3) 1, none⟩,
      ⟨some 14, .ld false 1 (.t 13), none⟩,
      ⟨some 15, .bin .neq (.t 12) (.t 14), none⟩] none)
    (.cond (.t 15) (.seq (.reg [4] [] [
        ⟨some 4, .mv (.c (.v false (.bool false))), none⟩] none)
      (.ret))
     (.skip)))
   (.seq (.seq (.reg [2, 3, 20] [] [
       ⟨some 16, .fad (.t 2) 2, none⟩,
       ⟨some 17, .ld false 1 (.t 16), none⟩,
       ⟨some 18, .fad (.t 3) 2, none⟩,
       ⟨some 19, .ld false 1 (.t 18), none⟩,
       ⟨some 20, .eqb true (.t 17) (.t 19), none⟩] none)
     (.cond (.t 20) (.seq (.reg [4] [] [
         ⟨some 4, .mv (.c (.v false (.bool false))), none⟩] none)
       (.ret))
      (.skip)))
    (.seq (.seq (.reg [26] [] [
        ⟨some 21, .fad (.t 2) 3, none⟩,
        ⟨some 22, .ld true 3 (.t 21), none⟩,
        ⟨some 23, .fad (.t 3) 3, none⟩,
        ⟨some 24, .ld true 3 (.t 23), none⟩,
        ⟨some 25, .call 165 [] [(.t 22), (.t 24)], none⟩,
        ⟨some 26, .un .not (.t 25), none⟩] none)
      (.cond (.t 26) (.seq (.reg [4] [] [
          ⟨some 4, .mv (.c (.v false (.bool false))), none⟩] none)
        (.ret))
       (.skip)))
     (.seq (.reg [4] [] [
        ⟨some 4, .mv (.c (.v false (.bool true))), none⟩] none)
      (.ret))))))

def pf158 : PF := ⟨[.s 4], [], pb158⟩

-- loop.example/g00496/laws.eqRow
def pb159 : PC :=
.seq (.reg [2, 3] [] [
   ⟨some 2, .box 2 (.t 0), none⟩,
   ⟨some 3, .box 2 (.t 1), none⟩,
   ⟨some 4, .mv (.c (.v false (.bool false))), none⟩] none)
 (.seq (.seq (.reg [2, 3, 9] [] [
     ⟨some 5, .fad (.t 2) 0, none⟩,
     ⟨some 6, .ld false 1 (.t 5), none⟩,
     ⟨some 7, .fad (.t 3) 0, none⟩,
     ⟨some 8, .ld false 1 (.t 7), none⟩,
     ⟨some 9, .bin .neq (.t 6) (.t 8), none⟩] none)
   (.cond (.t 9) (.seq (.reg [4] [] [
       ⟨some 4, .mv (.c (.v false (.bool false))), none⟩] none)
     (.ret))
    (.skip)))
  (.seq (.seq (.reg [15] [] [
      ⟨some 10, .fad (.t 2) 1, none⟩,
      ⟨some 11, .ld false 1 (.t 10), none⟩,
      ⟨some 12, .fad (.t 3) 1, none⟩,
      ⟨some 13, .ld false 1 (.t 12), none⟩,
      ⟨some 14, .call 166 [] [(.t 11), (.t 13)], none⟩,
      ⟨some 15, .un .not (.t 14), none⟩] none)
    (.cond (.t 15) (.seq (.reg [4] [] [
        ⟨some 4, .mv (.c (.v false (.bool false))), none⟩] none)
      (.ret))
     (.skip)))
   (.seq (.reg [4] [] [
      ⟨some 4, .mv (.c (.v false (.bool true))), none⟩] none)
    (.ret))))

def pf159 : PF := ⟨[.s 4], [], pb159⟩

-- loop.example/g00496/laws.eqRowS
def pl160_0 : PC :=
.seq (.seq (.reg [0, 1, 5, 14] [] [
          ⟨some 11, .mv (.t 5), none⟩,
          ⟨some 12, .mv (.t 0), none⟩,
          ⟨some 13, .len (.t 12), none⟩,
          ⟨some 14, .bin .lss (.t 11) (.t 13), none⟩] none)
        (.cond (.t 14) (.skip)
         (.exit 0)))
       (.seq (.blk 1 (.seq (.reg [0, 1, 5, 26] [] [
            ⟨some 17, .mv (.t 0), none⟩,
            ⟨some 18, .mv (.t 5), none⟩,
            ⟨some 19, .iad 2 (.t 17) (.t 18), none⟩,
            ⟨some 20, .ld true 2 (.t 19), none⟩,
            ⟨some 21, .mv (.t 1), none⟩,
            ⟨some 22, .mv (.t 5), none⟩,
            ⟨some 23, .iad 2 (.t 21) (.t 22), none⟩,
            ⟨some 24, .ld true 2 (.t 23), none⟩,
            ⟨some 25, .call 159 [] [(.t 20), (.t 24)], none⟩,
            ⟨some 26, .un .not (.t 25), none⟩] (some []))
          (.cond (.t 26) (.seq (.reg [4] [] [
              ⟨some 4, .mv (.c (.v false (.bool false))), none⟩] none)
            (.ret))
           (.skip))))
        (.reg [0, 1, 5] [] [
          ⟨some 15, .mv (.t 5), none⟩,
          ⟨some 16, .bin .add (.t 15) (.c (.v false (.int .i64 1))), none⟩,
          ⟨some 5, .mv (.t 16), none⟩] none))

def pb160 : PC :=
.seq (.reg [0, 1] [] [
   ⟨some 4, .mv (.c (.v false (.bool false))), none⟩] none)
 (.seq (.seq (.reg [0, 1, 10] [] [
     ⟨some 6, .mv (.t 0), none⟩,
     ⟨some 7, .len (.t 6), none⟩,
     ⟨some 8, .mv (.t 1), none⟩,
     ⟨some 9, .len (.t 8), none⟩,
     ⟨some 10, .bin .neq (.t 7) (.t 9), none⟩] none)
   (.cond (.t 10) (.seq (.reg [4] [] [
       ⟨some 4, .mv (.c (.v false (.bool false))), none⟩] none)
     (.ret))
    (.skip)))
  (.seq (.seq (.reg [0, 1, 5] [] [
      ⟨some 5, .mv (.c (.v false (.int .i64 0))), none⟩] none)
    (.blk 0 (.loop pl160_0)))
   (.seq (.reg [4] [] [
      ⟨some 4, .mv (.c (.v false (.bool true))), none⟩] none)
    (.ret))))

def pf160 : PF := ⟨[.s 4], [], pb160⟩

-- loop.example/g00496/laws.eqSlot
def pb161 : PC :=
.seq (.reg [2, 3] [] [
   ⟨some 2, .box 2 (.t 0), none⟩,
   ⟨some 3, .box 2 (.t 1), none⟩,
   ⟨some 4, .mv (.c (.v false (.bool false))), none⟩] none)
 (.seq (.seq (.reg [2, 3, 9] [] [
     ⟨some 5, .fad (.t 2) 0, none⟩,
     ⟨some 6, .ld false 1 (.t 5), none⟩,
     ⟨some 7, .fad (.t 3) 0, none⟩,
     ⟨some 8, .ld false 1 (.t 7), none⟩,
     ⟨some 9, .bin .neq (.t 6) (.t 8), none⟩] none)
   (.cond (.t 9) (.seq (.reg [4] [] [
       ⟨some 4, .mv (.c (.v false (.bool false))), none⟩] none)
     (.ret))
    (.skip)))
  (.seq (.seq (.reg [15] [] [
      ⟨some 10, .fad (.t 2) 1, none⟩,
      ⟨some 11, .ld false 1 (.t 10), none⟩,
      ⟨some 12, .fad (.t 3) 1, none⟩,
      ⟨some 13, .ld false 1 (.t 12), none⟩,
      ⟨some 14, .call 166 [] [(.t 11), (.t 13)], none⟩,
      ⟨some 15, .un .not (.t 14), none⟩] none)
    (.cond (.t 15) (.seq (.reg [4] [] [
        ⟨some 4, .mv (.c (.v false (.bool false))), none⟩] none)
      (.ret))
     (.skip)))
   (.seq (.reg [4] [] [
      ⟨some 4, .mv (.c (.v false (.bool true))), none⟩] none)
    (.ret))))

def pf161 : PF := ⟨[.s 4], [], pb161⟩

-- loop.example/g00496/laws.eqSlotS
def pl162_0 : PC :=
.seq (.seq (.reg [0, 1, 5, 14] [] [
          ⟨some 11, .mv (.t 5), none⟩,
          ⟨some 12, .mv (.t 0), none⟩,
          ⟨some 13, .len (.t 12), none⟩,
          ⟨some 14, .bin .lss (.t 11) (.t 13), none⟩] none)
        (.cond (.t 14) (.skip)
         (.exit 0)))
       (.seq (.blk 1 (.seq (.reg [0, 1, 5, 26] [] [
            ⟨some 17, .mv (.t 0), none⟩,
            ⟨some 18, .mv (.t 5), none⟩,
            ⟨some 19, .iad 2 (.t 17) (.t 18), none⟩,
            ⟨some 20, .ld true 2 (.t 19), none⟩,
            ⟨some 21, .mv (.t 1), none⟩,
            ⟨some 22, .mv (.t 5), none⟩,
            ⟨some 23, .iad 2 (.t 21) (.t 22), none⟩,
            ⟨some 24, .ld true 2 (.t 23), none⟩,
            ⟨some 25, .call 161 [] [(.t 20), (.t 24)], none⟩,
            ⟨some 26, .un .not (.t 25), none⟩] (some []))
          (.cond (.t 26) (.seq (.reg [4] [] [
              ⟨some 4, .mv (.c (.v false (.bool false))), none⟩] none)
            (.ret))
           (.skip))))
        (.reg [0, 1, 5] [] [
          ⟨some 15, .mv (.t 5), none⟩,
          ⟨some 16, .bin .add (.t 15) (.c (.v false (.int .i64 1))), none⟩,
          ⟨some 5, .mv (.t 16), none⟩] none))

def pb162 : PC :=
.seq (.reg [0, 1] [] [
   ⟨some 4, .mv (.c (.v false (.bool false))), none⟩] none)
 (.seq (.seq (.reg [0, 1, 10] [] [
     ⟨some 6, .mv (.t 0), none⟩,
     ⟨some 7, .len (.t 6), none⟩,
     ⟨some 8, .mv (.t 1), none⟩,
     ⟨some 9, .len (.t 8), none⟩,
     ⟨some 10, .bin .neq (.t 7) (.t 9), none⟩] none)
   (.cond (.t 10) (.seq (.reg [4] [] [
       ⟨some 4, .mv (.c (.v false (.bool false))), none⟩] none)
     (.ret))
    (.skip)))
  (.seq (.seq (.reg [0, 1, 5] [] [
      ⟨some 5, .mv (.c (.v false (.int .i64 0))), none⟩] none)
    (.blk 0 (.loop pl162_0)))
   (.seq (.reg [4] [] [
      ⟨some 4, .mv (.c (.v false (.bool true))), none⟩] none)
    (.ret))))

def pf162 : PF := ⟨[.s 4], [], pb162⟩

-- loop.example/g00496/laws.eqTask
def pb163 : PC :=
.seq (.reg [2, 3] [] [
   ⟨some 2, .box 25 (.t 0), none⟩,
   ⟨some 3, .box 25 (.t 1), none⟩,
   ⟨some 4, .mv (.c (.v false (.bool false))), none⟩] none)
 (.seq (.seq (.reg [2, 3, 9] [] [
     ⟨some 5, .fad (.t 2) 0, none⟩,
     ⟨some 6, .ld false 1 (.t 5), none⟩,
     ⟨some 7, .fad (.t 3) 0, none⟩,
     ⟨some 8, .ld false 1 (.t 7), none⟩,
     ⟨some 9, .bin .neq (.t 6) (.t 8), none⟩] none)
   (.cond (.t 9) (.seq (.reg [4] [] [
       ⟨some 4, .mv (.c (.v false (.bool false))), none⟩] none)
     (.ret))
    (.skip)))
  (.seq (.seq (.reg [2, 3, 14] [] [
      ⟨some 10, .fad (.t 2) 1, none⟩,
      ⟨some 11, .ld false 1 (.t 10), none⟩,
      ⟨some 12, .fad (.t 3) 1, none⟩,
      ⟨some 13, .ld false 1 (.t 12), none⟩,
      ⟨some 14, .bin .neq (.t 11) (.t 13), none⟩] none)
    (.cond (.t 14) (.seq (.reg [4] [] [
        ⟨some 4, .mv (.c (.v false (.bool false))), none⟩] none)
      (.ret))
     (.skip)))
   (.seq (.seq (.reg [2, 3, 19] [] [
       ⟨some 15, .fad (.t 2) 2, none⟩,
       ⟨some 16, .ld false 1 (.t 15), none⟩,
       ⟨some 17, .fad (.t 3) 2, none⟩,
       ⟨some 18, .ld false 1 (.t 17), none⟩,
       ⟨some 19, .bin .neq (.t 16) (.t 18), none⟩] none)
     (.cond (.t 19) (.seq (.reg [4] [] [
         ⟨some 4, .mv (.c (.v false (.bool false))), none⟩] none)
       (.ret))
      (.skip)))
    (.seq (.seq (.reg [2, 3, 25] [] [
        ⟨some 20, .fad (.t 2) 3, none⟩,
        ⟨some 21, .ld false 1 (.t 20), none⟩,
        ⟨some 22, .fad (.t 3) 3, none⟩,
        ⟨some 23, .ld false 1 (.t 22), none⟩,
        ⟨some 24, .call 166 [] [(.t 21), (.t 23)], none⟩,
        ⟨some 25, .un .not (.t 24), none⟩] none)
      (.cond (.t 25) (.seq (.reg [4] [] [
          ⟨some 4, .mv (.c (.v false (.bool false))), none⟩] none)
        (.ret))
       (.skip)))
     (.seq (.seq (.reg [2, 3, 30] [] [
         ⟨some 26, .fad (.t 2) 4, none⟩,
         ⟨some 27, .ld false 1 (.t 26), none⟩,
         ⟨some 28, .fad (.t 3) 4, none⟩,
         ⟨some 29, .ld false 1 (.t 28), none⟩,
         ⟨some 30, .bin .neq (.t 27) (.t 29), none⟩] none)
       (.cond (.t 30) (.seq (.reg [4] [] [
           ⟨some 4, .mv (.c (.v false (.bool false))), none⟩] none)
         (.ret))
        (.skip)))
      (.seq (.seq (.reg [2, 3, 36] [] [
          ⟨some 31, .fad (.t 2) 5, none⟩,
          ⟨some 32, .ld true 10 (.t 31), none⟩,
          ⟨some 33, .fad (.t 3) 5, none⟩,
          ⟨some 34, .ld true 10 (.t 33), none⟩,
          ⟨some 35, .call 155 [] [(.t 32), (.t 34)], none⟩,
          ⟨some 36, .un .not (.t 35), none⟩] none)
        (.cond (.t 36) (.seq (.reg [4] [] [
            ⟨some 4, .mv (.c (.v false (.bool false))), none⟩] none)
          (.ret))
         (.skip)))
       (.seq (.seq (.reg [2, 3, 41] [] [
           ⟨some 37, .fad (.t 2) 15, none⟩,
           ⟨some 38, .ld false 1 (.t 37), none⟩,
           ⟨some 39, .fad (.t 3) 15, none⟩,
           ⟨some 40, .ld false 1 (.t 39), none⟩,
           ⟨some 41, .bin .neq (.t 38) (.t 40), none⟩] none)
         (.cond (.t 41) (.seq (.reg [4] [] [
             ⟨some 4, .mv (.c (.v false (.bool false))), none⟩] none)
           (.ret))
          (.skip)))
        (.seq (.seq (.reg [2, 3, 46] [] [
            ⟨some 42, .fad (.t 2) 16, none⟩,
            ⟨some 43, .ld false 1 (.t 42), none⟩,
            ⟨some 44, .fad (.t 3) 16, none⟩,
            ⟨some 45, .ld false 1 (.t 44), none⟩,
            ⟨some 46, .bin .neq (.t 43) (.t 45), none⟩] none)
          (.cond (.t 46) (.seq (.reg [4] [] [
              ⟨some 4, .mv (.c (.v false (.bool false))), none⟩] none)
            (.ret))
           (.skip)))
         (.seq (.seq (.reg [2, 3, 52] [] [
             ⟨some 47, .fad (.t 2) 17, none⟩,
             ⟨some 48, .ld false 1 (.t 47), none⟩,
             ⟨some 49, .fad (.t 3) 17, none⟩,
             ⟨some 50, .ld false 1 (.t 49), none⟩,
             ⟨some 51, .call 157 [] [(.t 48), (.t 50)], none⟩,
             ⟨some 52, .un .not (.t 51), none⟩] none)
           (.cond (.t 52) (.seq (.reg [4] [] [
               ⟨some 4, .mv (.c (.v false (.bool false))), none⟩] none)
             (.ret))
            (.skip)))
          (.seq (.seq (.reg [2, 3, 57] [] [
              ⟨some 53, .fad (.t 2) 18, none⟩,
              ⟨some 54, .ld false 1 (.t 53), none⟩,
              ⟨some 55, .fad (.t 3) 18, none⟩,
              ⟨some 56, .ld false 1 (.t 55), none⟩,
              ⟨some 57, .bin .neq (.t 54) (.t 56), none⟩] none)
            (.cond (.t 57) (.seq (.reg [4] [] [
                ⟨some 4, .mv (.c (.v false (.bool false))), none⟩] none)
              (.ret))
             (.skip)))
           (.seq (.seq (.reg [2, 3, 62] [] [
               ⟨some 58, .fad (.t 2) 19, none⟩,
               ⟨some 59, .ld false 1 (.t 58), none⟩,
               ⟨some 60, .fad (.t 3) 19, none⟩,
               ⟨some 61, .ld false 1 (.t 60), none⟩,
               ⟨some 62, .bin .neq (.t 59) (.t 61), none⟩] none)
             (.cond (.t 62) (.seq (.reg [4] [] [
                 ⟨some 4, .mv (.c (.v false (.bool false))), none⟩] none)
               (.ret))
              (.skip)))
            (.seq (.seq (.reg [2, 3, 67] [] [
                ⟨some 63, .fad (.t 2) 20, none⟩,
                ⟨some 64, .ld false 1 (.t 63), none⟩,
                ⟨some 65, .fad (.t 3) 20, none⟩,
                ⟨some 66, .ld false 1 (.t 65), none⟩,
                ⟨some 67, .bin .neq (.t 64) (.t 66), none⟩] none)
              (.cond (.t 67) (.seq (.reg [4] [] [
                  ⟨some 4, .mv (.c (.v false (.bool false))), none⟩] none)
                (.ret))
               (.skip)))
             (.seq (.seq (.reg [2, 3, 72] [] [
                 ⟨some 68, .fad (.t 2) 21, none⟩,
                 ⟨some 69, .ld false 1 (.t 68), none⟩,
                 ⟨some 70, .fad (.t 3) 21, none⟩,
                 ⟨some 71, .ld false 1 (.t 70), none⟩,
                 ⟨some 72, .bin .neq (.t 69) (.t 71), none⟩] none)
               (.cond (.t 72) (.seq (.reg [4] [] [
                   ⟨some 4, .mv (.c (.v false (.bool false))), none⟩] none)
                 (.ret))
                (.skip)))
              (.seq (.seq (.reg [2, 3, 77] [] [
                  ⟨some 73, .fad (.t 2) 22, none⟩,
                  ⟨some 74, .ld false 1 (.t 73), none⟩,
                  ⟨some 75, .fad (.t 3) 22, none⟩,
                  ⟨some 76, .ld false 1 (.t 75), none⟩,
                  ⟨some 77, .bin .neq (.t 74) (.t 76), none⟩] none)
                (.cond (.t 77) (.seq (.reg [4] [] [
                    ⟨some 4, .mv (.c (.v false (.bool false))), none⟩] none)
                  (.ret))
                 (.skip)))
               (.seq (.seq (.reg [2, 3, 82] [] [
                   ⟨some 78, .fad (.t 2) 23, none⟩,
                   ⟨some 79, .ld false 1 (.t 78), none⟩,
                   ⟨some 80, .fad (.t 3) 23, none⟩,
                   ⟨some 81, .ld false 1 (.t 80), none⟩,
                   ⟨some 82, .eqb true (.t 79) (.t 81), none⟩] none)
                 (.cond (.t 82) (.seq (.reg [4] [] [
                     ⟨some 4, .mv (.c (.v false (.bool false))), none⟩] none)
                   (.ret))
                  (.skip)))
                (.seq (.seq (.reg [88] [] [
                    ⟨some 83, .fad (.t 2) 24, none⟩,
                    ⟨some 84, .ld false 1 (.t 83), none⟩,
                    ⟨some 85, .fad (.t 3) 24, none⟩,
                    ⟨some 86, .ld false 1 (.t 85), none⟩,
                    ⟨some 87, .call 160 [] [(.t 84), (.t 86)], none⟩,
                    ⟨some 88, .un .not (.t 87), none⟩] none)
                  (.cond (.t 88) (.seq (.reg [4] [] [
                      ⟨some 4, .mv (.c (.v false (.bool false))), none⟩] none)
                    (.ret))
                   (.skip)))
                 (.seq (.reg [4] [] [
                    ⟨some 4, .mv (.c (.v false (.bool true))), none⟩] none)
                  (.ret))))))))))))))))))

def pf163 : PF := ⟨[.s 4], [], pb163⟩

-- loop.example/g00496/laws.eqTaskS
def pl164_0 : PC :=
.seq (.seq (.reg [0, 1, 5, 14] [] [
          ⟨some 11, .mv (.t 5), none⟩,
          ⟨some 12, .mv (.t 0), none⟩,
          ⟨some 13, .len (.t 12), none⟩,
          ⟨some 14, .bin .lss (.t 11) (.t 13), none⟩] none)
        (.cond (.t 14) (.skip)
         (.exit 0)))
       (.seq (.blk 1 (.seq (.reg [0, 1, 5, 26] [] [
            ⟨some 17, .mv (.t 0), none⟩,
            ⟨some 18, .mv (.t 5), none⟩,
            ⟨some 19, .iad 25 (.t 17) (.t 18), none⟩,
            ⟨some 20, .ld true 25 (.t 19), none⟩,
            ⟨some 21, .mv (.t 1), none⟩,
            ⟨some 22, .mv (.t 5), none⟩,
            ⟨some 23, .iad 25 (.t 21) (.t 22), none⟩,
            ⟨some 24, .ld true 25 (.t 23), none⟩,
            ⟨some 25, .call 163 [] [(.t 20), (.t 24)], none⟩,
            ⟨some 26, .un .not (.t 25), none⟩] (some []))
          (.cond (.t 26) (.seq (.reg [4] [] [
              ⟨some 4, .mv (.c (.v false (.bool false))), none⟩] none)
            (.ret))
           (.skip))))
        (.reg [0, 1, 5] [] [
          ⟨some 15, .mv (.t 5), none⟩,
          ⟨some 16, .bin .add (.t 15) (.c (.v false (.int .i64 1))), none⟩,
          ⟨some 5, .mv (.t 16), none⟩] none))

def pb164 : PC :=
.seq (.reg [0, 1] [] [
   ⟨some 4, .mv (.c (.v false (.bool false))), none⟩] none)
 (.seq (.seq (.reg [0, 1, 10] [] [
     ⟨some 6, .mv (.t 0), none⟩,
     ⟨some 7, .len (.t 6), none⟩,
     ⟨some 8, .mv (.t 1), none⟩,
     ⟨some 9, .len (.t 8), none⟩,
     ⟨some 10, .bin .neq (.t 7) (.t 9), none⟩] none)
   (.cond (.t 10) (.seq (.reg [4] [] [
       ⟨some 4, .mv (.c (.v false (.bool false))), none⟩] none)
     (.ret))
    (.skip)))
  (.seq (.seq (.reg [0, 1, 5] [] [
      ⟨some 5, .mv (.c (.v false (.int .i64 0))), none⟩] none)
    (.blk 0 (.loop pl164_0)))
   (.seq (.reg [4] [] [
      ⟨some 4, .mv (.c (.v false (.bool true))), none⟩] none)
    (.ret))))

def pf164 : PF := ⟨[.s 4], [], pb164⟩

-- loop.example/g00496/laws.eqVal
def pb165 : PC :=
.seq (.reg [2, 3] [] [
   ⟨some 2, .box 3 (.t 0), none⟩,
   ⟨some 3, .box 3 (.t 1), none⟩,
   ⟨some 4, .mv (.c (.v false (.bool false))), none⟩] none)
 (.seq (.seq (.reg [2, 3, 9] [] [
     ⟨some 5, .fad (.t 2) 0, none⟩,
     ⟨some 6, .ld false 1 (.t 5), none⟩,
     ⟨some 7, .fad (.t 3) 0, none⟩,
     ⟨some 8, .ld false 1 (.t 7), none⟩,
     ⟨some 9, .bin .neq (.t 6) (.t 8), none⟩] none)
   (.cond (.t 9) (.seq (.reg [4] [] [
       ⟨some 4, .mv (.c (.v false (.bool false))), none⟩] none)
     (.ret))
    (.skip)))
  (.seq (.seq (.reg [2, 3, 14] [] [
      ⟨some 10, .fad (.t 2) 1, none⟩,
      ⟨some 11, .ld false 1 (.t 10), none⟩,
      ⟨some 12, .fad (.t 3) 1, none⟩,
      ⟨some 13, .ld false 1 (.t 12), none⟩,
      ⟨some 14, .bin .neq (.t 11) (.t 13), none⟩] none)
    (.cond (.t 14) (.seq (.reg [4] [] [
        ⟨some 4, .mv (.c (.v false (.bool false))), none⟩] none)
      (.ret))
     (.skip)))
   (.seq (.seq (.reg [19] [] [
       ⟨some 15, .fad (.t 2) 2, none⟩,
       ⟨some 16, .ld false 1 (.t 15), none⟩,
       ⟨some 17, .fad (.t 3) 2, none⟩,
       ⟨some 18, .ld false 1 (.t 17), none⟩,
       ⟨some 19, .bin .neq (.t 16) (.t 18), none⟩] none)
     (.cond (.t 19) (.seq (.reg [4] [] [
         ⟨some 4, .mv (.c (.v false (.bool false))), none⟩] none)
       (.ret))
      (.skip)))
    (.seq (.reg [4] [] [
       ⟨some 4, .mv (.c (.v false (.bool true))), none⟩] none)
     (.ret)))))

def pf165 : PF := ⟨[.s 4], [], pb165⟩

-- loop.example/g00496/laws.eqValS
def pl166_0 : PC :=
.seq (.seq (.reg [0, 1, 5, 14] [] [
          ⟨some 11, .mv (.t 5), none⟩,
          ⟨some 12, .mv (.t 0), none⟩,
          ⟨some 13, .len (.t 12), none⟩,
          ⟨some 14, .bin .lss (.t 11) (.t 13), none⟩] none)
        (.cond (.t 14) (.skip)
         (.exit 0)))
       (.seq (.blk 1 (.seq (.reg [0, 1, 5, 26] [] [
            ⟨some 17, .mv (.t 0), none⟩,
            ⟨some 18, .mv (.t 5), none⟩,
            ⟨some 19, .iad 3 (.t 17) (.t 18), none⟩,
            ⟨some 20, .ld true 3 (.t 19), none⟩,
            ⟨some 21, .mv (.t 1), none⟩,
            ⟨some 22, .mv (.t 5), none⟩,
            ⟨some 23, .iad 3 (.t 21) (.t 22), none⟩,
            ⟨some 24, .ld true 3 (.t 23), none⟩,
            ⟨some 25, .call 165 [] [(.t 20), (.t 24)], none⟩,
            ⟨some 26, .un .not (.t 25), none⟩] (some []))
          (.cond (.t 26) (.seq (.reg [4] [] [
              ⟨some 4, .mv (.c (.v false (.bool false))), none⟩] none)
            (.ret))
           (.skip))))
        (.reg [0, 1, 5] [] [
          ⟨some 15, .mv (.t 5), none⟩,
          ⟨some 16, .bin .add (.t 15) (.c (.v false (.int .i64 1))), none⟩,
          ⟨some 5, .mv (.t 16), none⟩] none))

def pb166 : PC :=
.seq (.reg [0, 1] [] [
   ⟨some 4, .mv (.c (.v false (.bool false))), none⟩] none)
 (.seq (.seq (.reg [0, 1, 10] [] [
     ⟨some 6, .mv (.t 0), none⟩,
     ⟨some 7, .len (.t 6), none⟩,
     ⟨some 8, .mv (.t 1), none⟩,
     ⟨some 9, .len (.t 8), none⟩,
     ⟨some 10, .bin .neq (.t 7) (.t 9), none⟩] none)
   (.cond (.t 10) (.seq (.reg [4] [] [
       ⟨some 4, .mv (.c (.v false (.bool false))), none⟩] none)
     (.ret))
    (.skip)))
  (.seq (.seq (.reg [0, 1, 5] [] [
      ⟨some 5, .mv (.c (.v false (.int .i64 0))), none⟩] none)
    (.blk 0 (.loop pl166_0)))
   (.seq (.reg [4] [] [
      ⟨some 4, .mv (.c (.v false (.bool true))), none⟩] none)
    (.ret))))

def pf166 : PF := ⟨[.s 4], [], pb166⟩

-- loop.example/g00496/laws.eqWorld
def pb167 : PC :=
.seq (.reg [2, 3] [] [
   ⟨some 2, .box 14 (.t 0), none⟩,
   ⟨some 3, .box 14 (.t 1), none⟩,
   ⟨some 4, .mv (.c (.v false (.bool false))), none⟩] none)
 (.seq (.seq (.reg [2, 3, 10] [] [
     ⟨some 5, .fad (.t 2) 0, none⟩,
     ⟨some 6, .ld true 3 (.t 5), none⟩,
     ⟨some 7, .fad (.t 3) 0, none⟩,
     ⟨some 8, .ld true 3 (.t 7), none⟩,
     ⟨some 9, .call 146 [] [(.t 6), (.t 8)], none⟩,
     ⟨some 10, .un .not (.t 9), none⟩] none)
   (.cond (.t 10) (.seq (.reg [4] [] [
       ⟨some 4, .mv (.c (.v false (.bool false))), none⟩] none)
     (.ret))
    (.skip)))
  (.seq (.seq (.reg [2, 3, 15] [] [
      ⟨some 11, .fad (.t 2) 3, none⟩,
      ⟨some 12, .ld false 1 (.t 11), none⟩,
      ⟨some 13, .fad (.t 3) 3, none⟩,
      ⟨some 14, .ld false 1 (.t 13), none⟩,
      ⟨some 15, .bin .neq (.t 12) (.t 14), none⟩] none)
    (.cond (.t 15) (.seq (.reg [4] [] [
        ⟨some 4, .mv (.c (.v false (.bool false))), none⟩] none)
      (.ret))
     (.skip)))
   (.seq (.seq (.reg [2, 3, 20] [] [
       ⟨some 16, .fad (.t 2) 4, none⟩,
       ⟨some 17, .ld false 1 (.t 16), none⟩,
       ⟨some 18, .fad (.t 3) 4, none⟩,
       ⟨some 19, .ld false 1 (.t 18), none⟩,
       ⟨some 20, .bin .neq (.t 17) (.t 19), none⟩] none)
     (.cond (.t 20) (.seq (.reg [4] [] [
         ⟨some 4, .mv (.c (.v false (.bool false))), none⟩] none)
       (.ret))
      (.skip)))
    (.seq (.seq (.reg [2, 3, 25] [] [
        ⟨some 21, .fad (.t 2) 5, none⟩,
        ⟨some 22, .ld false 1 (.t 21), none⟩,
        ⟨some 23, .fad (.t 3) 5, none⟩,
        ⟨some 24, .ld false 1 (.t 23), none⟩,
        ⟨some 25, .bin .neq (.t 22) (.t 24), none⟩] none)
      (.cond (.t 25) (.seq (.reg [4] [] [
          ⟨some 4, .mv (.c (.v false (.bool false))), none⟩] none)
        (.ret))
       (.skip)))
     (.seq (.seq (.reg [2, 3, 31] [] [
         ⟨some 26, .fad (.t 2) 6, none⟩,
         ⟨some 27, .ld true 2 (.t 26), none⟩,
         ⟨some 28, .fad (.t 3) 6, none⟩,
         ⟨some 29, .ld true 2 (.t 28), none⟩,
         ⟨some 30, .call 151 [] [(.t 27), (.t 29)], none⟩,
         ⟨some 31, .un .not (.t 30), none⟩] none)
       (.cond (.t 31) (.seq (.reg [4] [] [
           ⟨some 4, .mv (.c (.v false (.bool false))), none⟩] none)
         (.ret))
        (.skip)))
      (.seq (.seq (.reg [2, 3, 37] [] [
          ⟨some 32, .fad (.t 2) 8, none⟩,
          ⟨some 33, .ld false 1 (.t 32), none⟩,
          ⟨some 34, .fad (.t 3) 8, none⟩,
          ⟨some 35, .ld false 1 (.t 34), none⟩,
          ⟨some 36, .call 143 [] [(.t 33), (.t 35)], none⟩,
          ⟨some 37, .un .not (.t 36), none⟩] none)
        (.cond (.t 37) (.seq (.reg [4] [] [
            ⟨some 4, .mv (.c (.v false (.bool false))), none⟩] none)
          (.ret))
         (.skip)))
       (.seq (.seq (.reg [2, 3, 43] [] [
           ⟨some 38, .fad (.t 2) 9, none⟩,
           ⟨some 39, .ld false 1 (.t 38), none⟩,
           ⟨some 40, .fad (.t 3) 9, none⟩,
           ⟨some 41, .ld false 1 (.t 40), none⟩,
           ⟨some 42, .call 152 [] [(.t 39), (.t 41)], none⟩,
           ⟨some 43, .un .not (.t 42), none⟩] none)
         (.cond (.t 43) (.seq (.reg [4] [] [
             ⟨some 4, .mv (.c (.v false (.bool false))), none⟩] none)
           (.ret))
          (.skip)))
        (.seq (.seq (.reg [2, 3, 49] [] [
            ⟨some 44, .fad (.t 2) 10, none⟩,
            ⟨some 45, .ld false 1 (.t 44), none⟩,
            ⟨some 46, .fad (.t 3) 10, none⟩,
            ⟨some 47, .ld false 1 (.t 46), none⟩,
            ⟨some 48, .call 148 [] [(.t 45), (.t 47)], none⟩,
            ⟨some 49, .un .not (.t 48), none⟩] none)
          (.cond (.t 49) (.seq (.reg [4] [] [
              ⟨some 4, .mv (.c (.v false (.bool false))), none⟩] none)
            (.ret))
           (.skip)))
         (.seq (.seq (.reg [2, 3, 55] [] [
             ⟨some 50, .fad (.t 2) 11, none⟩,
             ⟨some 51, .ld false 1 (.t 50), none⟩,
             ⟨some 52, .fad (.t 3) 11, none⟩,
             ⟨some 53, .ld false 1 (.t 52), none⟩,
             ⟨some 54, .call 152 [] [(.t 51), (.t 53)], none⟩,
             ⟨some 55, .un .not (.t 54), none⟩] none)
           (.cond (.t 55) (.seq (.reg [4] [] [
               ⟨some 4, .mv (.c (.v false (.bool false))), none⟩] none)
             (.ret))
            (.skip)))
          (.seq (.seq (.reg [2, 3, 61] [] [
              ⟨some 56, .fad (.t 2) 12, none⟩,
              ⟨some 57, .ld false 1 (.t 56), none⟩,
              ⟨some 58, .fad (.t 3) 12, none⟩,
              ⟨some 59, .ld false 1 (.t 58), none⟩,
              ⟨some 60, .call 164 [] [(.t 57), (.t 59)], none⟩,
              ⟨some 61, .un .not (.t 60), none⟩] none)
            (.cond (.t 61) (.seq (.reg [4] [] [
                ⟨some 4, .mv (.c (.v false (.bool false))), none⟩] none)
              (.ret))
             (.skip)))
           (.seq (.seq (.reg [67] [] [
               ⟨some 62, .fad (.t 2) 13, none⟩,
               ⟨some 63, .ld false 1 (.t 62), none⟩,
               ⟨some 64, .fad (.t 3) 13, none⟩,
               ⟨some 65, .ld false 1 (.t 64), none⟩,
               ⟨some 66, .call 150 [] [(.t 63), (.t 65)], none⟩,
               ⟨some 67, .un .not (.t 66), none⟩] none)
             (.cond (.t 67) (.seq (.reg [4] [] [
                 ⟨some 4, .mv (.c (.v false (.bool false))), none⟩] none)
               (.ret))
              (.skip)))
            (.seq (.reg [4] [] [
               ⟨some 4, .mv (.c (.v false (.bool true))), none⟩] none)
             (.ret)))))))))))))

def pf167 : PF := ⟨[.s 4], [], pb167⟩

-- loop.example/g00496/laws.heldBufS
def pl168_0 : PC :=
.seq (.seq (.reg [0, 1, 5, 9] [] [
         ⟨some 6, .mv (.t 5), none⟩,
         ⟨some 7, .mv (.t 0), none⟩,
         ⟨some 8, .len (.t 7), none⟩,
         ⟨some 9, .bin .lss (.t 6) (.t 8), none⟩] none)
       (.cond (.t 9) (.skip)
        (.exit 0)))
      (.seq (.blk 1 (.seq (.seq (.reg [0, 1, 5, 18] [] [
            ⟨some 12, .mv (.t 0), none⟩,
            ⟨some 13, .mv (.t 5), none⟩,
            ⟨some 14, .iad 5 (.t 12) (.t 13), none⟩,
            ⟨some 15, .fad (.t 14) 0, none⟩,
            ⟨some 16, .ld false 1 (.t 15), none⟩,
            ⟨some 17, .mv (.t 1), none⟩,
            ⟨some 18, .bin .neq (.t 16) (.t 17), none⟩] none)
          (.cond (.t 18) (.seq (.reg [4] [] [
              ⟨some 4, .mv (.c (.v false (.int .i64 (-1)))), none⟩] none)
            (.ret))
           (.skip)))
         (.seq (.reg [0, 1, 5] [] [
            ⟨some 19, .mv (.t 1), none⟩,
            ⟨some 20, .bin .add (.t 19) (.c (.v false (.int .i64 1))), none⟩,
            ⟨some 1, .mv (.t 20), none⟩] none)
          (.seq (.seq (.reg [0, 1, 5, 27] [] [
              ⟨some 21, .mv (.t 0), none⟩,
              ⟨some 22, .mv (.t 5), none⟩,
              ⟨some 23, .iad 5 (.t 21) (.t 22), none⟩,
              ⟨some 24, .fad (.t 23) 1, none⟩,
              ⟨some 25, .ld false 1 (.t 24), none⟩,
              ⟨some 26, .mv (.t 1), none⟩,
              ⟨some 27, .bin .neq (.t 25) (.t 26), none⟩] none)
            (.cond (.t 27) (.seq (.reg [4] [] [
                ⟨some 4, .mv (.c (.v false (.int .i64 (-1)))), none⟩] none)
              (.ret))
             (.skip)))
           (.seq (.reg [0, 1, 5] [] [
              ⟨some 28, .mv (.t 1), none⟩,
              ⟨some 29, .bin .add (.t 28) (.c (.v false (.int .i64 1))), none⟩,
              ⟨some 1, .mv (.t 29), none⟩] none)
            (.seq (.seq (.reg [0, 1, 5, 37] [] [
                ⟨some 30, .mv (.t 0), none⟩,
                ⟨some 31, .mv (.t 5), none⟩,
                ⟨some 32, .iad 5 (.t 30) (.t 31), none⟩,
                ⟨some 33, .fad (.t 32) 2, none⟩,
                ⟨some 34, .fad (.t 33) 0, none⟩,
                ⟨some 35, .ld false 1 (.t 34), none⟩,
                ⟨some 36, .mv (.t 1), none⟩,
                ⟨some 37, .bin .neq (.t 35) (.t 36), none⟩] none)
              (.cond (.t 37) (.seq (.reg [4] [] [
                  ⟨some 4, .mv (.c (.v false (.int .i64 (-1)))), none⟩] none)
                (.ret))
               (.skip)))
             (.seq (.reg [0, 1, 5] [] [
                ⟨some 38, .mv (.t 1), none⟩,
                ⟨some 39, .bin .add (.t 38) (.c (.v false (.int .i64 1))), none⟩,
                ⟨some 1, .mv (.t 39), none⟩] none)
              (.seq (.reg [0, 1, 5] [(47, 1)] [
                 ⟨some 40, .mv (.t 0), none⟩,
                 ⟨some 41, .mv (.t 5), none⟩,
                 ⟨some 42, .iad 5 (.t 40) (.t 41), none⟩,
                 ⟨some 43, .fad (.t 42) 2, none⟩,
                 ⟨some 44, .fad (.t 43) 1, none⟩,
                 ⟨some 45, .ld false 1 (.t 44), none⟩,
                 ⟨some 46, .mv (.t 1), none⟩,
                 ⟨some 47, .call 179 [] [(.t 45), (.t 46)], none⟩,
                 ⟨some 1, .mv (.t 47), none⟩] none)
               (.seq (.seq (.reg [0, 1, 5, 49] [] [
                   ⟨some 48, .mv (.t 1), none⟩,
                   ⟨some 49, .bin .lss (.t 48) (.c (.v false (.int .i64 0))), none⟩] none)
                 (.cond (.t 49) (.seq (.reg [4] [] [
                     ⟨some 4, .mv (.c (.v false (.int .i64 (-1)))), none⟩] none)
                   (.ret))
                  (.skip)))
                (.seq (.reg [0, 1, 5] [(56, 1)] [
                   ⟨some 50, .mv (.t 0), none⟩,
                   ⟨some 51, .mv (.t 5), none⟩,
                   ⟨some 52, .iad 5 (.t 50) (.t 51), none⟩,
                   ⟨some 53, .fad (.t 52) 4, none⟩,
                   ⟨some 54, .ld false 1 (.t 53), none⟩,
                   ⟨some 55, .mv (.t 1), none⟩,
                   ⟨some 56, .call 169 [] [(.t 54), (.t 55)], none⟩,
                   ⟨some 1, .mv (.t 56), none⟩] none)
                 (.seq (.reg [0, 1, 5, 58] [] [
                    ⟨some 57, .mv (.t 1), none⟩,
                    ⟨some 58, .bin .lss (.t 57) (.c (.v false (.int .i64 0))), none⟩] none)
                  (.cond (.t 58) (.seq (.reg [4] [] [
                      ⟨some 4, .mv (.c (.v false (.int .i64 (-1)))), none⟩] none)
                    (.ret))
                   (.skip)))))))))))))
       (.reg [0, 1, 5] [] [
         ⟨some 10, .mv (.t 5), none⟩,
         ⟨some 11, .bin .add (.t 10) (.c (.v false (.int .i64 1))), none⟩,
         ⟨some 5, .mv (.t 11), none⟩] none))

def pb168 : PC :=
.seq (.reg [0, 1] [] [
   ⟨some 4, .mv (.c (.v false (.int .i64 0))), none⟩] none)
 (.seq (.seq (.reg [0, 1, 5] [] [
     ⟨some 5, .mv (.c (.v false (.int .i64 0))), none⟩] none)
   (.blk 0 (.loop pl168_0)))
  (.seq (.reg [1, 4] [] [
     ⟨some 59, .mv (.t 1), none⟩,
     ⟨some 4, .mv (.t 59), none⟩] none)
   (.ret)))

def pf168 : PF := ⟨[.s 4], [], pb168⟩

-- loop.example/g00496/laws.heldByteS
def pl169_0 : PC :=
.seq (.seq (.reg [0, 1, 5, 9] [] [
         ⟨some 6, .mv (.t 5), none⟩,
         ⟨some 7, .mv (.t 0), none⟩,
         ⟨some 8, .len (.t 7), none⟩,
         ⟨some 9, .bin .lss (.t 6) (.t 8), none⟩] none)
       (.cond (.t 9) (.skip)
        (.exit 0)))
      (.seq (.blk 1 (.seq (.seq (.reg [0, 1, 5, 18] [] [
            ⟨some 12, .mv (.t 0), none⟩,
            ⟨some 13, .mv (.t 5), none⟩,
            ⟨some 14, .iad 1 (.t 12) (.t 13), none⟩,
            ⟨some 15, .ld false 1 (.t 14), none⟩,
            ⟨some 16, .mv (.t 1), none⟩,
            ⟨some 17, .cvi .u8 (.t 16), none⟩,
            ⟨some 18, .bin .neq (.t 15) (.t 17), none⟩] none)
          (.cond (.t 18) (.seq (.reg [4] [] [
              ⟨some 4, .mv (.c (.v false (.int .i64 (-1)))), none⟩] none)
            (.ret))
           (.skip)))
         (.reg [0, 1, 5] [] [
           ⟨some 19, .mv (.t 1), none⟩,
           ⟨some 20, .bin .add (.t 19) (.c (.v false (.int .i64 1))), none⟩,
           ⟨some 1, .mv (.t 20), none⟩] none)))
       (.reg [0, 1, 5] [] [
         ⟨some 10, .mv (.t 5), none⟩,
         ⟨some 11, .bin .add (.t 10) (.c (.v false (.int .i64 1))), none⟩,
         ⟨some 5, .mv (.t 11), none⟩] none))

def pb169 : PC :=
.seq (.reg [0, 1] [] [
   ⟨some 4, .mv (.c (.v false (.int .i64 0))), none⟩] none)
 (.seq (.seq (.reg [0, 1, 5] [] [
     ⟨some 5, .mv (.c (.v false (.int .i64 0))), none⟩] none)
   (.blk 0 (.loop pl169_0)))
  (.seq (.reg [4] [] [
     ⟨some 21, .mv (.t 1), none⟩,
     ⟨some 4, .mv (.t 21), none⟩] none)
   (.ret)))

def pf169 : PF := ⟨[.s 4], [], pb169⟩

-- loop.example/g00496/laws.heldConf
def pb171 : PC :=
.seq (.reg [1, 2] [] [
   ⟨some 2, .box 3 (.t 0), none⟩,
   ⟨some 4, .mv (.c (.v false (.int .i64 0))), none⟩] none)
 (.seq (.reg [1] [(8, 1)] [
    ⟨some 5, .fad (.t 2) 0, none⟩,
    ⟨some 6, .ld false 1 (.t 5), none⟩,
    ⟨some 7, .mv (.t 1), none⟩,
    ⟨some 8, .call 175 [] [(.t 6), (.t 7)], none⟩,
    ⟨some 1, .mv (.t 8), none⟩] none)
  (.seq (.seq (.reg [1, 10] [] [
      ⟨some 9, .mv (.t 1), none⟩,
      ⟨some 10, .bin .lss (.t 9) (.c (.v false (.int .i64 0))), none⟩] none)
    (.cond (.t 10) (.seq (.reg [4] [] [
        ⟨some 4, .mv (.c (.v false (.int .i64 (-1)))), none⟩] none)
      (.ret))
     (.skip)))
   (.seq (.reg [1, 4] [] [
      ⟨some 11, .mv (.t 1), none⟩,
      ⟨some 4, .mv (.t 11), none⟩] none)
    (.ret))))

def pf171 : PF := ⟨[.s 4], [], pb171⟩

-- loop.example/g00496/laws.heldDeadS
def pl172_0 : PC :=
.seq (.seq (.reg [0, 1, 5, 9] [] [
         ⟨some 6, .mv (.t 5), none⟩,
         ⟨some 7, .mv (.t 0), none⟩,
         ⟨some 8, .len (.t 7), none⟩,
         ⟨some 9, .bin .lss (.t 6) (.t 8), none⟩] none)
       (.cond (.t 9) (.skip)
        (.exit 0)))
      (.seq (.blk 1 (.seq (.seq (.reg [0, 1, 5, 18] [] [
            ⟨some 12, .mv (.t 0), none⟩,
            ⟨some 13, .mv (.t 5), none⟩,
            ⟨some 14, .iad 3 (.t 12) (.t 13), none⟩,
            ⟨some 15, .fad (.t 14) 0, none⟩,
            ⟨some 16, .ld false 1 (.t 15), none⟩,
            ⟨some 17, .mv (.t 1), none⟩,
            ⟨some 18, .bin .neq (.t 16) (.t 17), none⟩] none)
          (.cond (.t 18) (.seq (.reg [4] [] [
              ⟨some 4, .mv (.c (.v false (.int .i64 (-1)))), none⟩] none)
            (.ret))
           (.skip)))
         (.seq (.reg [0, 1, 5] [] [
            ⟨some 19, .mv (.t 1), none⟩,
            ⟨some 20, .bin .add (.t 19) (.c (.v false (.int .i64 1))), none⟩,
            ⟨some 1, .mv (.t 20), none⟩] none)
          (.seq (.seq (.reg [0, 1, 5, 27] [] [
              ⟨some 21, .mv (.t 0), none⟩,
              ⟨some 22, .mv (.t 5), none⟩,
              ⟨some 23, .iad 3 (.t 21) (.t 22), none⟩,
              ⟨some 24, .fad (.t 23) 1, none⟩,
              ⟨some 25, .ld false 1 (.t 24), none⟩,
              ⟨some 26, .mv (.t 1), none⟩,
              ⟨some 27, .bin .neq (.t 25) (.t 26), none⟩] none)
            (.cond (.t 27) (.seq (.reg [4] [] [
                ⟨some 4, .mv (.c (.v false (.int .i64 (-1)))), none⟩] none)
              (.ret))
             (.skip)))
           (.seq (.reg [0, 1, 5] [] [
              ⟨some 28, .mv (.t 1), none⟩,
              ⟨some 29, .bin .add (.t 28) (.c (.v false (.int .i64 1))), none⟩,
              ⟨some 1, .mv (.t 29), none⟩] none)
            (.seq (.seq (.reg [0, 1, 5, 36] [] [
                ⟨some 30, .mv (.t 0), none⟩,
                ⟨some 31, .mv (.t 5), none⟩,
                ⟨some 32, .iad 3 (.t 30) (.t 31), none⟩,
                ⟨some 33, .fad (.t 32) 2, none⟩,
                ⟨some 34, .ld false 1 (.t 33), none⟩,
                ⟨some 35, .mv (.t 1), none⟩,
                ⟨some 36, .bin .neq (.t 34) (.t 35), none⟩] none)
              (.cond (.t 36) (.seq (.reg [4] [] [
                  ⟨some 4, .mv (.c (.v false (.int .i64 (-1)))), none⟩] none)
                (.ret))
               (.skip)))
             (.reg [0, 1, 5] [] [
               ⟨some 37, .mv (.t 1), none⟩,
               ⟨some 38, .bin .add (.t 37) (.c (.v false (.int .i64 1))), none⟩,
               ⟨some 1, .mv (.t 38), none⟩] none)))))))
       (.reg [0, 1, 5] [] [
         ⟨some 10, .mv (.t 5), none⟩,
         ⟨some 11, .bin .add (.t 10) (.c (.v false (.int .i64 1))), none⟩,
         ⟨some 5, .mv (.t 11), none⟩] none))

def pb172 : PC :=
.seq (.reg [0, 1] [] [
   ⟨some 4, .mv (.c (.v false (.int .i64 0))), none⟩] none)
 (.seq (.seq (.reg [0, 1, 5] [] [
     ⟨some 5, .mv (.c (.v false (.int .i64 0))), none⟩] none)
   (.blk 0 (.loop pl172_0)))
  (.seq (.reg [4] [] [
     ⟨some 39, .mv (.t 1), none⟩,
     ⟨some 4, .mv (.t 39), none⟩] none)
   (.ret)))

def pf172 : PF := ⟨[.s 4], [], pb172⟩

-- loop.example/g00496/laws.heldDeedS
def pl173_0 : PC :=
.seq (.seq (.reg [0, 1, 5, 9] [] [
         ⟨some 6, .mv (.t 5), none⟩,
         ⟨some 7, .mv (.t 0), none⟩,
         ⟨some 8, .len (.t 7), none⟩,
         ⟨some 9, .bin .lss (.t 6) (.t 8), none⟩] none)
       (.cond (.t 9) (.skip)
        (.exit 0)))
      (.seq (.blk 1 (.seq (.seq (.reg [0, 1, 5, 18] [] [
            ⟨some 12, .mv (.t 0), none⟩,
            ⟨some 13, .mv (.t 5), none⟩,
            ⟨some 14, .iad 25 (.t 12) (.t 13), none⟩,
            ⟨some 15, .fad (.t 14) 0, none⟩,
            ⟨some 16, .ld false 1 (.t 15), none⟩,
            ⟨some 17, .mv (.t 1), none⟩,
            ⟨some 18, .bin .neq (.t 16) (.t 17), none⟩] none)
          (.cond (.t 18) (.seq (.reg [4] [] [
              ⟨some 4, .mv (.c (.v false (.int .i64 (-1)))), none⟩] none)
            (.ret))
           (.skip)))
         (.seq (.reg [0, 1, 5] [] [
            ⟨some 19, .mv (.t 1), none⟩,
            ⟨some 20, .bin .add (.t 19) (.c (.v false (.int .i64 1))), none⟩,
            ⟨some 1, .mv (.t 20), none⟩] none)
          (.seq (.seq (.reg [0, 1, 5, 27] [] [
              ⟨some 21, .mv (.t 0), none⟩,
              ⟨some 22, .mv (.t 5), none⟩,
              ⟨some 23, .iad 25 (.t 21) (.t 22), none⟩,
              ⟨some 24, .fad (.t 23) 1, none⟩,
              ⟨some 25, .ld false 1 (.t 24), none⟩,
              ⟨some 26, .mv (.t 1), none⟩,
              ⟨some 27, .bin .neq (.t 25) (.t 26), none⟩] none)
            (.cond (.t 27) (.seq (.reg [4] [] [
                ⟨some 4, .mv (.c (.v false (.int .i64 (-1)))), none⟩] none)
              (.ret))
             (.skip)))
           (.seq (.reg [0, 1, 5] [] [
              ⟨some 28, .mv (.t 1), none⟩,
              ⟨some 29, .bin .add (.t 28) (.c (.v false (.int .i64 1))), none⟩,
              ⟨some 1, .mv (.t 29), none⟩] none)
            (.seq (.reg [0, 1, 5] [(36, 1)] [
               ⟨some 30, .mv (.t 0), none⟩,
               ⟨some 31, .mv (.t 5), none⟩,
               ⟨some 32, .iad 25 (.t 30) (.t 31), none⟩,
               ⟨some 33, .fad (.t 32) 2, none⟩,
               ⟨some 34, .ld false 1 (.t 33), none⟩,
               ⟨some 35, .mv (.t 1), none⟩,
               ⟨some 36, .call 181 [] [(.t 34), (.t 35)], none⟩,
               ⟨some 1, .mv (.t 36), none⟩] none)
             (.seq (.seq (.reg [0, 1, 5, 38] [] [
                 ⟨some 37, .mv (.t 1), none⟩,
                 ⟨some 38, .bin .lss (.t 37) (.c (.v false (.int .i64 0))), none⟩] none)
               (.cond (.t 38) (.seq (.reg [4] [] [
                   ⟨some 4, .mv (.c (.v false (.int .i64 (-1)))), none⟩] none)
                 (.ret))
                (.skip)))
              (.seq (.seq (.reg [0, 1, 5, 45] [] [
                  ⟨some 39, .mv (.t 0), none⟩,
                  ⟨some 40, .mv (.t 5), none⟩,
                  ⟨some 41, .iad 25 (.t 39) (.t 40), none⟩,
                  ⟨some 42, .fad (.t 41) 3, none⟩,
                  ⟨some 43, .ld false 1 (.t 42), none⟩,
                  ⟨some 44, .mv (.t 1), none⟩,
                  ⟨some 45, .bin .neq (.t 43) (.t 44), none⟩] none)
                (.cond (.t 45) (.seq (.reg [4] [] [
                    ⟨some 4, .mv (.c (.v false (.int .i64 (-1)))), none⟩] none)
                  (.ret))
                 (.skip)))
               (.seq (.reg [0, 1, 5] [] [
                  ⟨some 46, .mv (.t 1), none⟩,
                  ⟨some 47, .bin .add (.t 46) (.c (.v false (.int .i64 1))), none⟩,
                  ⟨some 1, .mv (.t 47), none⟩] none)
                (.seq (.seq (.reg [0, 1, 5, 55] [] [
                    ⟨some 48, .mv (.t 0), none⟩,
                    ⟨some 49, .mv (.t 5), none⟩,
                    ⟨some 50, .iad 25 (.t 48) (.t 49), none⟩,
                    ⟨some 51, .fad (.t 50) 4, none⟩,
                    ⟨some 52, .fad (.t 51) 0, none⟩,
                    ⟨some 53, .ld false 1 (.t 52), none⟩,
                    ⟨some 54, .mv (.t 1), none⟩,
                    ⟨some 55, .bin .neq (.t 53) (.t 54), none⟩] none)
                  (.cond (.t 55) (.seq (.reg [4] [] [
                      ⟨some 4, .mv (.c (.v false (.int .i64 (-1)))), none⟩] none)
                    (.ret))
                   (.skip)))
                 (.seq (.reg [0, 1, 5] [] [
                    ⟨some 56, .mv (.t 1), none⟩,
                    ⟨some 57, .bin .add (.t 56) (.c (.v false (.int .i64 1))), none⟩,
                    ⟨some 1, .mv (.t 57), none⟩] none)
                  (.seq (.seq (.reg [0, 1, 5, 66] [] [
                      ⟨some 58, .mv (.t 0), none⟩,
                      ⟨some 59, .mv (.t 5), none⟩,
                      ⟨some 60, .iad 25 (.t 58) (.t 59), none⟩,
                      ⟨some 61, .fad (.t 60) 4, none⟩,
                      ⟨some 62, .fad (.t 61) 1, none⟩,
                      ⟨some 63, .fad (.t 62) 0, none⟩,
                      ⟨some 64, .ld false 1 (.t 63), none⟩,
                      ⟨some 65, .mv (.t 1), none⟩,
                      ⟨some 66, .bin .neq (.t 64) (.t 65), none⟩] none)
                    (.cond (.t 66) (.seq (.reg [4] [] [
                        ⟨some 4, .mv (.c (.v false (.int .i64 (-1)))), none⟩] none)
                      (.ret))
                     (.skip)))
                   (.seq (.reg [0, 1, 5] [] [
                      ⟨some 67, .mv (.t 1), none⟩,
                      ⟨some 68, .bin .add (.t 67) (.c (.v false (.int .i64 1))), none⟩,
                      ⟨some 1, .mv (.t 68), none⟩] none)
                    (.seq (.seq (.reg [0, 1, 5, 77] [] [
                        ⟨some 69, .mv (.t 0), none⟩,
                        ⟨some 70, .mv (.t 5), none⟩,
                        ⟨some 71, .iad 25 (.t 69) (.t 70), none⟩,
                        ⟨some 72, .fad (.t 71) 4, none⟩,
                        ⟨some 73, .fad (.t 72) 1, none⟩,
                        ⟨some 74, .fad (.t 73) 1, none⟩,
                        ⟨some 75, .ld false 1 (.t 74), none⟩,
                        ⟨some 76, .mv (.t 1), none⟩,
                        ⟨some 77, .bin .neq (.t 75) (.t 76), none⟩] none)
                      (.cond (.t 77) (.seq (.reg [4] [] [
                          ⟨some 4, .mv (.c (.v false (.int .i64 (-1)))), none⟩] none)
                        (.ret))
                       (.skip)))
                     (.seq (.reg [0, 1, 5] [] [
                        ⟨some 78, .mv (.t 1), none⟩,
                        ⟨some 79, .bin .add (.t 78) (.c (.v false (.int .i64 1))), none⟩,
                        ⟨some 1, .mv (.t 79), none⟩] none)
                      (.seq (.seq (.reg [0, 1, 5, 88] [] [
                          ⟨some 80, .mv (.t 0), none⟩,
                          ⟨some 81, .mv (.t 5), none⟩,
                          ⟨some 82, .iad 25 (.t 80) (.t 81), none⟩,
                          ⟨some 83, .fad (.t 82) 4, none⟩,
                          ⟨some 84, .fad (.t 83) 1, none⟩,
                          ⟨some 85, .fad (.t 84) 2, none⟩,
                          ⟨some 86, .ld false 1 (.t 85), none⟩,
                          ⟨some 87, .mv (.t 1), none⟩,
                          ⟨some 88, .bin .neq (.t 86) (.t 87), none⟩] none)
                        (.cond (.t 88) (.seq (.reg [4] [] [
                            ⟨some 4, .mv (.c (.v false (.int .i64 (-1)))), none⟩] none)
                          (.ret))
                         (.skip)))
                       (.seq (.reg [0, 1, 5] [] [
                          ⟨some 89, .mv (.t 1), none⟩,
                          ⟨some 90, .bin .add (.t 89) (.c (.v false (.int .i64 1))), none⟩,
                          ⟨some 1, .mv (.t 90), none⟩] none)
                        (.seq (.seq (.reg [0, 1, 5, 100] [] [
                            ⟨some 91, .mv (.t 0), none⟩,
                            ⟨some 92, .mv (.t 5), none⟩,
                            ⟨some 93, .iad 25 (.t 91) (.t 92), none⟩,
                            ⟨some 94, .fad (.t 93) 4, none⟩,
                            ⟨some 95, .fad (.t 94) 1, none⟩,
                            ⟨some 96, .fad (.t 95) 3, none⟩,
                            ⟨some 97, .fad (.t 96) 0, none⟩,
                            ⟨some 98, .ld false 1 (.t 97), none⟩,
                            ⟨some 99, .mv (.t 1), none⟩,
                            ⟨some 100, .bin .neq (.t 98) (.t 99), none⟩] none)
                          (.cond (.t 100) (.seq (.reg [4] [] [
                              ⟨some 4, .mv (.c (.v false (.int .i64 (-1)))), none⟩] none)
                            (.ret))
                           (.skip)))
                         (.seq (.reg [0, 1, 5] [] [
                            ⟨some 101, .mv (.t 1), none⟩,
                            ⟨some 102, .bin .add (.t 101) (.c (.v false (.int .i64 1))), none⟩,
                            ⟨some 1, .mv (.t 102), none⟩] none)
                          (.seq (.seq (.reg [0, 1, 5, 112] [] [
                              ⟨some 103, .mv (.t 0), none⟩,
                              ⟨some 104, .mv (.t 5), none⟩,
                              ⟨some 105, .iad 25 (.t 103) (.t 104), none⟩,
                              ⟨some 106, .fad (.t 105) 4, none⟩,
                              ⟨some 107, .fad (.t 106) 1, none⟩,
                              ⟨some 108, .fad (.t 107) 3, none⟩,
                              ⟨some 109, .fad (.t 108) 1, none⟩,
                              ⟨some 110, .ld false 1 (.t 109), none⟩,
                              ⟨some 111, .mv (.t 1), none⟩,
                              ⟨some 112, .bin .neq (.t 110) (.t 111), none⟩] none)
                            (.cond (.t 112) (.seq (.reg [4] [] [
                                ⟨some 4, .mv (.c (.v false (.int .i64 (-1)))), none⟩] none)
                              (.ret))
                             (.skip)))
                           (.seq (.reg [0, 1, 5] [] [
                              ⟨some 113, .mv (.t 1), none⟩,
                              ⟨some 114, .bin .add (.t 113) (.c (.v false (.int .i64 1))), none⟩,
                              ⟨some 1, .mv (.t 114), none⟩] none)
                            (.seq (.seq (.reg [0, 1, 5, 125] [] [
                                ⟨some 115, .mv (.t 0), none⟩,
                                ⟨some 116, .mv (.t 5), none⟩,
                                ⟨some 117, .iad 25 (.t 115) (.t 116), none⟩,
                                ⟨some 118, .fad (.t 117) 4, none⟩,
                                ⟨some 119, .fad (.t 118) 1, none⟩,
                                ⟨some 120, .fad (.t 119) 3, none⟩,
                                ⟨some 121, .fad (.t 120) 2, none⟩,
                                ⟨some 122, .ld false 1 (.t 121), none⟩,
                                ⟨some 123, .mv (.t 1), none⟩,
                                ⟨some 124, .call 196 [] [(.t 123)], none⟩,
                                ⟨some 125, .bin .neq (.t 122) (.t 124), none⟩] (some [(2, 9), (7, 9)]))
                              (.cond (.t 125) (.seq (.reg [4] [] [
                                  ⟨some 4, .mv (.c (.v false (.int .i64 (-1)))), none⟩] none)
                                (.ret))
                               (.skip)))
                             (.seq (.reg [0, 1, 5] [] [
                                ⟨some 126, .mv (.t 1), none⟩,
                                ⟨some 127, .bin .add (.t 126) (.c (.v false (.int .i64 1))), none⟩,
                                ⟨some 1, .mv (.t 127), none⟩] none)
                              (.seq (.reg [0, 1, 5] [(136, 1)] [
                                 ⟨some 128, .mv (.t 0), none⟩,
                                 ⟨some 129, .mv (.t 5), none⟩,
                                 ⟨some 130, .iad 25 (.t 128) (.t 129), none⟩,
                                 ⟨some 131, .fad (.t 130) 4, none⟩,
                                 ⟨some 132, .fad (.t 131) 1, none⟩,
                                 ⟨some 133, .fad (.t 132) 6, none⟩,
                                 ⟨some 134, .ld false 1 (.t 133), none⟩,
                                 ⟨some 135, .mv (.t 1), none⟩,
                                 ⟨some 136, .call 176 [] [(.t 134), (.t 135)], none⟩,
                                 ⟨some 1, .mv (.t 136), none⟩] none)
                               (.seq (.seq (.reg [0, 1, 5, 138] [] [
                                   ⟨some 137, .mv (.t 1), none⟩,
                                   ⟨some 138, .bin .lss (.t 137) (.c (.v false (.int .i64 0))), none⟩] none)
                                 (.cond (.t 138) (.seq (.reg [4] [] [
                                     ⟨some 4, .mv (.c (.v false (.int .i64 (-1)))), none⟩] none)
                                   (.ret))
                                  (.skip)))
                                (.seq (.seq (.reg [0, 1, 5, 146] [] [
                                    ⟨some 139, .mv (.t 0), none⟩,
                                    ⟨some 140, .mv (.t 5), none⟩,
                                    ⟨some 141, .iad 25 (.t 139) (.t 140), none⟩,
                                    ⟨some 142, .fad (.t 141) 4, none⟩,
                                    ⟨some 143, .fad (.t 142) 8, none⟩,
                                    ⟨some 144, .ld false 1 (.t 143), none⟩,
                                    ⟨some 145, .mv (.t 1), none⟩,
                                    ⟨some 146, .bin .neq (.t 144) (.t 145), none⟩] none)
                                  (.cond (.t 146) (.seq (.reg [4] [] [
                                      ⟨some 4, .mv (.c (.v false (.int .i64 (-1)))), none⟩] none)
                                    (.ret))
                                   (.skip)))
                                 (.seq (.reg [0, 1, 5] [] [
                                    ⟨some 147, .mv (.t 1), none⟩,
                                    ⟨some 148, .bin .add (.t 147) (.c (.v false (.int .i64 1))), none⟩,
                                    ⟨some 1, .mv (.t 148), none⟩] none)
                                  (.seq (.reg [0, 1, 5] [(156, 1)] [
                                     ⟨some 149, .mv (.t 0), none⟩,
                                     ⟨some 150, .mv (.t 5), none⟩,
                                     ⟨some 151, .iad 25 (.t 149) (.t 150), none⟩,
                                     ⟨some 152, .fad (.t 151) 4, none⟩,
                                     ⟨some 153, .fad (.t 152) 9, none⟩,
                                     ⟨some 154, .ld false 1 (.t 153), none⟩,
                                     ⟨some 155, .mv (.t 1), none⟩,
                                     ⟨some 156, .call 175 [] [(.t 154), (.t 155)], none⟩,
                                     ⟨some 1, .mv (.t 156), none⟩] none)
                                   (.seq (.seq (.reg [0, 1, 5, 158] [] [
                                       ⟨some 157, .mv (.t 1), none⟩,
                                       ⟨some 158, .bin .lss (.t 157) (.c (.v false (.int .i64 0))), none⟩] none)
                                     (.cond (.t 158) (.seq (.reg [4] [] [
                                         ⟨some 4, .mv (.c (.v false (.int .i64 (-1)))), none⟩] none)
                                       (.ret))
                                      (.skip)))
                                    (.seq (.reg [0, 1, 5] [(166, 1)] [
                                       ⟨some 159, .mv (.t 0), none⟩,
                                       ⟨some 160, .mv (.t 5), none⟩,
                                       ⟨some 161, .iad 25 (.t 159) (.t 160), none⟩,
                                       ⟨some 162, .fad (.t 161) 14, none⟩,
                                       ⟨some 163, .fad (.t 162) 0, none⟩,
                                       ⟨some 164, .ld false 1 (.t 163), none⟩,
                                       ⟨some 165, .mv (.t 1), none⟩,
                                       ⟨some 166, .call 178 [] [(.t 164), (.t 165)], none⟩,
                                       ⟨some 1, .mv (.t 166), none⟩] none)
                                     (.seq (.seq (.reg [0, 1, 5, 168] [] [
                                         ⟨some 167, .mv (.t 1), none⟩,
                                         ⟨some 168, .bin .lss (.t 167) (.c (.v false (.int .i64 0))), none⟩] none)
                                       (.cond (.t 168) (.seq (.reg [4] [] [
                                           ⟨some 4, .mv (.c (.v false (.int .i64 (-1)))), none⟩] none)
                                         (.ret))
                                        (.skip)))
                                      (.seq (.seq (.reg [0, 1, 5, 176] [] [
                                          ⟨some 169, .mv (.t 0), none⟩,
                                          ⟨some 170, .mv (.t 5), none⟩,
                                          ⟨some 171, .iad 25 (.t 169) (.t 170), none⟩,
                                          ⟨some 172, .fad (.t 171) 14, none⟩,
                                          ⟨some 173, .fad (.t 172) 1, none⟩,
                                          ⟨some 174, .ld false 1 (.t 173), none⟩,
                                          ⟨some 175, .mv (.t 1), none⟩,
                                          ⟨some 176, .bin .neq (.t 174) (.t 175), none⟩] none)
                                        (.cond (.t 176) (.seq (.reg [4] [] [
                                            ⟨some 4, .mv (.c (.v false (.int .i64 (-1)))), none⟩] none)
                                          (.ret))
                                         (.skip)))
                                       (.seq (.reg [0, 1, 5] [] [
                                          ⟨some 177, .mv (.t 1), none⟩,
                                          ⟨some 178, .bin .add (.t 177) (.c (.v false (.int .i64 1))), none⟩,
                                          ⟨some 1, .mv (.t 178), none⟩] none)
                                        (.seq (.seq (.reg [0, 1, 5, 188] [] [
                                            ⟨some 179, .mv (.t 0), none⟩,
                                            ⟨some 180, .mv (.t 5), none⟩,
                                            ⟨some 181, .iad 25 (.t 179) (.t 180), none⟩,
                                            ⟨some 182, .fad (.t 181) 14, none⟩,
                                            ⟨some 183, .fad (.t 182) 2, none⟩,
                                            ⟨some 184, .ld false 1 (.t 183), none⟩,
                                            ⟨some 185, .mv (.t 1), none⟩,
                                            ⟨some 186, .bin .rem (.t 185) (.c (.v false (.int .i64 3))), none⟩,
                                            ⟨some 187, .bin .eql (.t 186) (.c (.v false (.int .i64 0))), none⟩,
                                            ⟨some 188, .eqb true (.t 184) (.t 187), none⟩] none)
                                          (.cond (.t 188) (.seq (.reg [4] [] [
                                              ⟨some 4, .mv (.c (.v false (.int .i64 (-1)))), none⟩] none)
                                            (.ret))
                                           (.skip)))
                                         (.seq (.reg [0, 1, 5] [] [
                                            ⟨some 189, .mv (.t 1), none⟩,
                                            ⟨some 190, .bin .add (.t 189) (.c (.v false (.int .i64 1))), none⟩,
                                            ⟨some 1, .mv (.t 190), none⟩] none)
                                          (.seq (.seq (.reg [0, 1, 5, 199] [] [
                                              ⟨some 191, .mv (.t 0), none⟩,
                                              ⟨some 192, .mv (.t 5), none⟩,
                                              ⟨some 193, .iad 25 (.t 191) (.t 192), none⟩,
                                              ⟨some 194, .fad (.t 193) 14, none⟩,
                                              ⟨some 195, .fad (.t 194) 3, none⟩,
                                              ⟨some 196, .fad (.t 195) 0, none⟩,
                                              ⟨some 197, .ld false 1 (.t 196), none⟩,
                                              ⟨some 198, .mv (.t 1), none⟩,
                                              ⟨some 199, .bin .neq (.t 197) (.t 198), none⟩] none)
                                            (.cond (.t 199) (.seq (.reg [4] [] [
                                                ⟨some 4, .mv (.c (.v false (.int .i64 (-1)))), none⟩] none)
                                              (.ret))
                                             (.skip)))
                                           (.seq (.reg [0, 1, 5] [] [
                                              ⟨some 200, .mv (.t 1), none⟩,
                                              ⟨some 201, .bin .add (.t 200) (.c (.v false (.int .i64 1))), none⟩,
                                              ⟨some 1, .mv (.t 201), none⟩] none)
                                            (.seq (.seq (.reg [0, 1, 5, 210] [] [
                                                ⟨some 202, .mv (.t 0), none⟩,
                                                ⟨some 203, .mv (.t 5), none⟩,
                                                ⟨some 204, .iad 25 (.t 202) (.t 203), none⟩,
                                                ⟨some 205, .fad (.t 204) 14, none⟩,
                                                ⟨some 206, .fad (.t 205) 3, none⟩,
                                                ⟨some 207, .fad (.t 206) 1, none⟩,
                                                ⟨some 208, .ld false 1 (.t 207), none⟩,
                                                ⟨some 209, .mv (.t 1), none⟩,
                                                ⟨some 210, .bin .neq (.t 208) (.t 209), none⟩] none)
                                              (.cond (.t 210) (.seq (.reg [4] [] [
                                                  ⟨some 4, .mv (.c (.v false (.int .i64 (-1)))), none⟩] none)
                                                (.ret))
                                               (.skip)))
                                             (.seq (.reg [0, 1, 5] [] [
                                                ⟨some 211, .mv (.t 1), none⟩,
                                                ⟨some 212, .bin .add (.t 211) (.c (.v false (.int .i64 1))), none⟩,
                                                ⟨some 1, .mv (.t 212), none⟩] none)
                                              (.seq (.seq (.reg [0, 1, 5, 222] [] [
                                                  ⟨some 213, .mv (.t 0), none⟩,
                                                  ⟨some 214, .mv (.t 5), none⟩,
                                                  ⟨some 215, .iad 25 (.t 213) (.t 214), none⟩,
                                                  ⟨some 216, .fad (.t 215) 14, none⟩,
                                                  ⟨some 217, .fad (.t 216) 3, none⟩,
                                                  ⟨some 218, .fad (.t 217) 2, none⟩,
                                                  ⟨some 219, .ld false 1 (.t 218), none⟩,
                                                  ⟨some 220, .mv (.t 1), none⟩,
                                                  ⟨some 221, .call 196 [] [(.t 220)], none⟩,
                                                  ⟨some 222, .bin .neq (.t 219) (.t 221), none⟩] (some [(2, 8), (6, 8)]))
                                                (.cond (.t 222) (.seq (.reg [4] [] [
                                                    ⟨some 4, .mv (.c (.v false (.int .i64 (-1)))), none⟩] none)
                                                  (.ret))
                                                 (.skip)))
                                               (.seq (.reg [0, 1, 5] [] [
                                                  ⟨some 223, .mv (.t 1), none⟩,
                                                  ⟨some 224, .bin .add (.t 223) (.c (.v false (.int .i64 1))), none⟩,
                                                  ⟨some 1, .mv (.t 224), none⟩] none)
                                                (.seq (.seq (.reg [0, 1, 5, 231] [] [
                                                    ⟨some 225, .mv (.t 0), none⟩,
                                                    ⟨some 226, .mv (.t 5), none⟩,
                                                    ⟨some 227, .iad 25 (.t 225) (.t 226), none⟩,
                                                    ⟨some 228, .fad (.t 227) 20, none⟩,
                                                    ⟨some 229, .ld false 1 (.t 228), none⟩,
                                                    ⟨some 230, .mv (.t 1), none⟩,
                                                    ⟨some 231, .bin .neq (.t 229) (.t 230), none⟩] none)
                                                  (.cond (.t 231) (.seq (.reg [4] [] [
                                                      ⟨some 4, .mv (.c (.v false (.int .i64 (-1)))), none⟩] none)
                                                    (.ret))
                                                   (.skip)))
                                                 (.seq (.reg [0, 1, 5] [] [
                                                    ⟨some 232, .mv (.t 1), none⟩,
                                                    ⟨some 233, .bin .add (.t 232) (.c (.v false (.int .i64 1))), none⟩,
                                                    ⟨some 1, .mv (.t 233), none⟩] none)
                                                  (.seq (.seq (.reg [0, 1, 5, 240] [] [
                                                      ⟨some 234, .mv (.t 0), none⟩,
                                                      ⟨some 235, .mv (.t 5), none⟩,
                                                      ⟨some 236, .iad 25 (.t 234) (.t 235), none⟩,
                                                      ⟨some 237, .fad (.t 236) 21, none⟩,
                                                      ⟨some 238, .ld false 1 (.t 237), none⟩,
                                                      ⟨some 239, .mv (.t 1), none⟩,
                                                      ⟨some 240, .bin .neq (.t 238) (.t 239), none⟩] none)
                                                    (.cond (.t 240) (.seq (.reg [4] [] [
                                                        ⟨some 4, .mv (.c (.v false (.int .i64 (-1)))), none⟩] none)
                                                      (.ret))
                                                     (.skip)))
                                                   (.seq (.reg [0, 1, 5] [] [
                                                      ⟨some 241, .mv (.t 1), none⟩,
                                                      ⟨some 242, .bin .add (.t 241) (.c (.v false (.int .i64 1))), none⟩,
                                                      ⟨some 1, .mv (.t 242), none⟩] none)
                                                    (.seq (.seq (.reg [0, 1, 5, 249] [] [
                                                        ⟨some 243, .mv (.t 0), none⟩,
                                                        ⟨some 244, .mv (.t 5), none⟩,
                                                        ⟨some 245, .iad 25 (.t 243) (.t 244), none⟩,
                                                        ⟨some 246, .fad (.t 245) 22, none⟩,
                                                        ⟨some 247, .ld false 1 (.t 246), none⟩,
                                                        ⟨some 248, .mv (.t 1), none⟩,
                                                        ⟨some 249, .bin .neq (.t 247) (.t 248), none⟩] none)
                                                      (.cond (.t 249) (.seq (.reg [4] [] [
                                                          ⟨some 4, .mv (.c (.v false (.int .i64 (-1)))), none⟩] none)
                                                        (.ret))
                                                       (.skip)))
                                                     (.seq (.reg [0, 1, 5] [] [
                                                        ⟨some 250, .mv (.t 1), none⟩,
                                                        ⟨some 251, .bin .add (.t 250) (.c (.v false (.int .i64 1))), none⟩,
                                                        ⟨some 1, .mv (.t 251), none⟩] none)
                                                      (.seq (.seq (.reg [0, 1, 5, 258] [] [
                                                          ⟨some 252, .mv (.t 0), none⟩,
                                                          ⟨some 253, .mv (.t 5), none⟩,
                                                          ⟨some 254, .iad 25 (.t 252) (.t 253), none⟩,
                                                          ⟨some 255, .fad (.t 254) 23, none⟩,
                                                          ⟨some 256, .ld false 1 (.t 255), none⟩,
                                                          ⟨some 257, .mv (.t 1), none⟩,
                                                          ⟨some 258, .bin .neq (.t 256) (.t 257), none⟩] none)
                                                        (.cond (.t 258) (.seq (.reg [4] [] [
                                                            ⟨some 4, .mv (.c (.v false (.int .i64 (-1)))), none⟩] none)
                                                          (.ret))
                                                         (.skip)))
                                                       (.seq (.reg [0, 1, 5] [] [
                                                          ⟨some 259, .mv (.t 1), none⟩,
                                                          ⟨some 260, .bin .add (.t 259) (.c (.v false (.int .i64 1))), none⟩,
                                                          ⟨some 1, .mv (.t 260), none⟩] none)
                                                        (.seq (.seq (.reg [0, 1, 5, 267] [] [
                                                            ⟨some 261, .mv (.t 0), none⟩,
                                                            ⟨some 262, .mv (.t 5), none⟩,
                                                            ⟨some 263, .iad 25 (.t 261) (.t 262), none⟩,
                                                            ⟨some 264, .fad (.t 263) 24, none⟩,
                                                            ⟨some 265, .ld false 1 (.t 264), none⟩,
                                                            ⟨some 266, .mv (.t 1), none⟩,
                                                            ⟨some 267, .bin .neq (.t 265) (.t 266), none⟩] none)
                                                          (.cond (.t 267) (.seq (.reg [4] [] [
                                                              ⟨some 4, .mv (.c (.v false (.int .i64 (-1)))), none⟩] none)
                                                            (.ret))
                                                           (.skip)))
                                                         (.reg [0, 1, 5] [] [
                                                           ⟨some 268, .mv (.t 1), none⟩,
                                                           ⟨some 269, .bin .add (.t 268) (.c (.v false (.int .i64 1))), none⟩,
                                                           ⟨some 1, .mv (.t 269), none⟩] none)))))))))))))))))))))))))))))))))))))))))))))))))))
       (.reg [0, 1, 5] [] [
         ⟨some 10, .mv (.t 5), none⟩,
         ⟨some 11, .bin .add (.t 10) (.c (.v false (.int .i64 1))), none⟩,
         ⟨some 5, .mv (.t 11), none⟩] none))

def pb173 : PC :=
.seq (.reg [0, 1] [] [
   ⟨some 4, .mv (.c (.v false (.int .i64 0))), none⟩] none)
 (.seq (.seq (.reg [0, 1, 5] [] [
     ⟨some 5, .mv (.c (.v false (.int .i64 0))), none⟩] none)
   (.blk 0 (.loop pl173_0)))
  (.seq (.reg [4] [] [
     ⟨some 270, .mv (.t 1), none⟩,
     ⟨some 4, .mv (.t 270), none⟩] none)
   (.ret)))

def pf173 : PF := ⟨[.s 4], [], pb173⟩

-- loop.example/g00496/laws.heldDir
def pb174 : PC :=
.seq (.reg [1, 2] [] [
   ⟨some 2, .box 2 (.t 0), none⟩,
   ⟨some 4, .mv (.c (.v false (.int .i64 0))), none⟩] none)
 (.seq (.reg [1] [(8, 1)] [
    ⟨some 5, .fad (.t 2) 1, none⟩,
    ⟨some 6, .ld false 1 (.t 5), none⟩,
    ⟨some 7, .mv (.t 1), none⟩,
    ⟨some 8, .call 177 [] [(.t 6), (.t 7)], none⟩,
    ⟨some 1, .mv (.t 8), none⟩] none)
  (.seq (.seq (.reg [1, 10] [] [
      ⟨some 9, .mv (.t 1), none⟩,
      ⟨some 10, .bin .lss (.t 9) (.c (.v false (.int .i64 0))), none⟩] none)
    (.cond (.t 10) (.seq (.reg [4] [] [
        ⟨some 4, .mv (.c (.v false (.int .i64 (-1)))), none⟩] none)
      (.ret))
     (.skip)))
   (.seq (.reg [1, 4] [] [
      ⟨some 11, .mv (.t 1), none⟩,
      ⟨some 4, .mv (.t 11), none⟩] none)
    (.ret))))

def pf174 : PF := ⟨[.s 4], [], pb174⟩

-- loop.example/g00496/laws.heldIntS
def pl175_0 : PC :=
.seq (.seq (.reg [0, 1, 5, 9] [] [
         ⟨some 6, .mv (.t 5), none⟩,
         ⟨some 7, .mv (.t 0), none⟩,
         ⟨some 8, .len (.t 7), none⟩,
         ⟨some 9, .bin .lss (.t 6) (.t 8), none⟩] none)
       (.cond (.t 9) (.skip)
        (.exit 0)))
      (.seq (.blk 1 (.seq (.seq (.reg [0, 1, 5, 17] [] [
            ⟨some 12, .mv (.t 0), none⟩,
            ⟨some 13, .mv (.t 5), none⟩,
            ⟨some 14, .iad 1 (.t 12) (.t 13), none⟩,
            ⟨some 15, .ld false 1 (.t 14), none⟩,
            ⟨some 16, .mv (.t 1), none⟩,
            ⟨some 17, .bin .neq (.t 15) (.t 16), none⟩] none)
          (.cond (.t 17) (.seq (.reg [4] [] [
              ⟨some 4, .mv (.c (.v false (.int .i64 (-1)))), none⟩] none)
            (.ret))
           (.skip)))
         (.reg [0, 1, 5] [] [
           ⟨some 18, .mv (.t 1), none⟩,
           ⟨some 19, .bin .add (.t 18) (.c (.v false (.int .i64 1))), none⟩,
           ⟨some 1, .mv (.t 19), none⟩] none)))
       (.reg [0, 1, 5] [] [
         ⟨some 10, .mv (.t 5), none⟩,
         ⟨some 11, .bin .add (.t 10) (.c (.v false (.int .i64 1))), none⟩,
         ⟨some 5, .mv (.t 11), none⟩] none))

def pb175 : PC :=
.seq (.reg [0, 1] [] [
   ⟨some 4, .mv (.c (.v false (.int .i64 0))), none⟩] none)
 (.seq (.seq (.reg [0, 1, 5] [] [
     ⟨some 5, .mv (.c (.v false (.int .i64 0))), none⟩] none)
   (.blk 0 (.loop pl175_0)))
  (.seq (.reg [4] [] [
     ⟨some 20, .mv (.t 1), none⟩,
     ⟨some 4, .mv (.t 20), none⟩] none)
   (.ret)))

def pf175 : PF := ⟨[.s 4], [], pb175⟩

-- loop.example/g00496/laws.heldPredS
def pl176_0 : PC :=
.seq (.seq (.reg [0, 1, 5, 9] [] [
         ⟨some 6, .mv (.t 5), none⟩,
         ⟨some 7, .mv (.t 0), none⟩,
         ⟨some 8, .len (.t 7), none⟩,
         ⟨some 9, .bin .lss (.t 6) (.t 8), none⟩] none)
       (.cond (.t 9) (.skip)
        (.exit 0)))
      (.seq (.blk 1 (.seq (.seq (.reg [0, 1, 5, 18] [] [
            ⟨some 12, .mv (.t 0), none⟩,
            ⟨some 13, .mv (.t 5), none⟩,
            ⟨some 14, .iad 7 (.t 12) (.t 13), none⟩,
            ⟨some 15, .fad (.t 14) 0, none⟩,
            ⟨some 16, .ld false 1 (.t 15), none⟩,
            ⟨some 17, .mv (.t 1), none⟩,
            ⟨some 18, .bin .neq (.t 16) (.t 17), none⟩] none)
          (.cond (.t 18) (.seq (.reg [4] [] [
              ⟨some 4, .mv (.c (.v false (.int .i64 (-1)))), none⟩] none)
            (.ret))
           (.skip)))
         (.seq (.reg [0, 1, 5] [] [
            ⟨some 19, .mv (.t 1), none⟩,
            ⟨some 20, .bin .add (.t 19) (.c (.v false (.int .i64 1))), none⟩,
            ⟨some 1, .mv (.t 20), none⟩] none)
          (.seq (.seq (.reg [0, 1, 5, 27] [] [
              ⟨some 21, .mv (.t 0), none⟩,
              ⟨some 22, .mv (.t 5), none⟩,
              ⟨some 23, .iad 7 (.t 21) (.t 22), none⟩,
              ⟨some 24, .fad (.t 23) 1, none⟩,
              ⟨some 25, .ld false 1 (.t 24), none⟩,
              ⟨some 26, .mv (.t 1), none⟩,
              ⟨some 27, .bin .neq (.t 25) (.t 26), none⟩] none)
            (.cond (.t 27) (.seq (.reg [4] [] [
                ⟨some 4, .mv (.c (.v false (.int .i64 (-1)))), none⟩] none)
              (.ret))
             (.skip)))
           (.seq (.reg [0, 1, 5] [] [
              ⟨some 28, .mv (.t 1), none⟩,
              ⟨some 29, .bin .add (.t 28) (.c (.v false (.int .i64 1))), none⟩,
              ⟨some 1, .mv (.t 29), none⟩] none)
            (.seq (.seq (.reg [0, 1, 5, 36] [] [
                ⟨some 30, .mv (.t 0), none⟩,
                ⟨some 31, .mv (.t 5), none⟩,
                ⟨some 32, .iad 7 (.t 30) (.t 31), none⟩,
                ⟨some 33, .fad (.t 32) 2, none⟩,
                ⟨some 34, .ld false 1 (.t 33), none⟩,
                ⟨some 35, .mv (.t 1), none⟩,
                ⟨some 36, .bin .neq (.t 34) (.t 35), none⟩] none)
              (.cond (.t 36) (.seq (.reg [4] [] [
                  ⟨some 4, .mv (.c (.v false (.int .i64 (-1)))), none⟩] none)
                (.ret))
               (.skip)))
             (.seq (.reg [0, 1, 5] [] [
                ⟨some 37, .mv (.t 1), none⟩,
                ⟨some 38, .bin .add (.t 37) (.c (.v false (.int .i64 1))), none⟩,
                ⟨some 1, .mv (.t 38), none⟩] none)
              (.seq (.seq (.reg [0, 1, 5, 46] [] [
                  ⟨some 39, .mv (.t 0), none⟩,
                  ⟨some 40, .mv (.t 5), none⟩,
                  ⟨some 41, .iad 7 (.t 39) (.t 40), none⟩,
                  ⟨some 42, .fad (.t 41) 3, none⟩,
                  ⟨some 43, .fad (.t 42) 0, none⟩,
                  ⟨some 44, .ld false 1 (.t 43), none⟩,
                  ⟨some 45, .mv (.t 1), none⟩,
                  ⟨some 46, .bin .neq (.t 44) (.t 45), none⟩] none)
                (.cond (.t 46) (.seq (.reg [4] [] [
                    ⟨some 4, .mv (.c (.v false (.int .i64 (-1)))), none⟩] none)
                  (.ret))
                 (.skip)))
               (.seq (.reg [0, 1, 5] [] [
                  ⟨some 47, .mv (.t 1), none⟩,
                  ⟨some 48, .bin .add (.t 47) (.c (.v false (.int .i64 1))), none⟩,
                  ⟨some 1, .mv (.t 48), none⟩] none)
                (.seq (.seq (.reg [0, 1, 5, 56] [] [
                    ⟨some 49, .mv (.t 0), none⟩,
                    ⟨some 50, .mv (.t 5), none⟩,
                    ⟨some 51, .iad 7 (.t 49) (.t 50), none⟩,
                    ⟨some 52, .fad (.t 51) 3, none⟩,
                    ⟨some 53, .fad (.t 52) 1, none⟩,
                    ⟨some 54, .ld false 1 (.t 53), none⟩,
                    ⟨some 55, .mv (.t 1), none⟩,
                    ⟨some 56, .bin .neq (.t 54) (.t 55), none⟩] none)
                  (.cond (.t 56) (.seq (.reg [4] [] [
                      ⟨some 4, .mv (.c (.v false (.int .i64 (-1)))), none⟩] none)
                    (.ret))
                   (.skip)))
                 (.seq (.reg [0, 1, 5] [] [
                    ⟨some 57, .mv (.t 1), none⟩,
                    ⟨some 58, .bin .add (.t 57) (.c (.v false (.int .i64 1))), none⟩,
                    ⟨some 1, .mv (.t 58), none⟩] none)
                  (.seq (.seq (.reg [0, 1, 5, 67] [] [
                      ⟨some 59, .mv (.t 0), none⟩,
                      ⟨some 60, .mv (.t 5), none⟩,
                      ⟨some 61, .iad 7 (.t 59) (.t 60), none⟩,
                      ⟨some 62, .fad (.t 61) 3, none⟩,
                      ⟨some 63, .fad (.t 62) 2, none⟩,
                      ⟨some 64, .ld false 1 (.t 63), none⟩,
                      ⟨some 65, .mv (.t 1), none⟩,
                      ⟨some 66, .call 196 [] [(.t 65)], none⟩,
                      ⟨some 67, .bin .neq (.t 64) (.t 66), none⟩] (some [(2, 7), (5, 7)]))
                    (.cond (.t 67) (.seq (.reg [4] [] [
                        ⟨some 4, .mv (.c (.v false (.int .i64 (-1)))), none⟩] none)
                      (.ret))
                     (.skip)))
                   (.seq (.reg [0, 1, 5] [] [
                      ⟨some 68, .mv (.t 1), none⟩,
                      ⟨some 69, .bin .add (.t 68) (.c (.v false (.int .i64 1))), none⟩,
                      ⟨some 1, .mv (.t 69), none⟩] none)
                    (.seq (.reg [0, 1, 5] [(76, 1)] [
                       ⟨some 70, .mv (.t 0), none⟩,
                       ⟨some 71, .mv (.t 5), none⟩,
                       ⟨some 72, .iad 7 (.t 70) (.t 71), none⟩,
                       ⟨some 73, .fad (.t 72) 6, none⟩,
                       ⟨some 74, .ld false 1 (.t 73), none⟩,
                       ⟨some 75, .mv (.t 1), none⟩,
                       ⟨some 76, .call 176 [] [(.t 74), (.t 75)], none⟩,
                       ⟨some 1, .mv (.t 76), none⟩] none)
                     (.seq (.reg [0, 1, 5, 78] [] [
                        ⟨some 77, .mv (.t 1), none⟩,
                        ⟨some 78, .bin .lss (.t 77) (.c (.v false (.int .i64 0))), none⟩] none)
                      (.cond (.t 78) (.seq (.reg [4] [] [
                          ⟨some 4, .mv (.c (.v false (.int .i64 (-1)))), none⟩] none)
                        (.ret))
                       (.skip)))))))))))))))))
       (.reg [0, 1, 5] [] [
         ⟨some 10, .mv (.t 5), none⟩,
         ⟨some 11, .bin .add (.t 10) (.c (.v false (.int .i64 1))), none⟩,
         ⟨some 5, .mv (.t 11), none⟩] none))

def pb176 : PC :=
.seq (.reg [0, 1] [] [
   ⟨some 4, .mv (.c (.v false (.int .i64 0))), none⟩] none)
 (.seq (.seq (.reg [0, 1, 5] [] [
     ⟨some 5, .mv (.c (.v false (.int .i64 0))), none⟩] none)
   (.blk 0 (.loop pl176_0)))
  (.seq (.reg [1, 4] [] [
     ⟨some 79, .mv (.t 1), none⟩,
     ⟨some 4, .mv (.t 79), none⟩] none)
   (.ret)))

def pf176 : PF := ⟨[.s 4], [], pb176⟩

-- loop.example/g00496/laws.heldRefS
def pl177_0 : PC :=
.seq (.seq (.reg [0, 1, 5, 9] [] [
         ⟨some 6, .mv (.t 5), none⟩,
         ⟨some 7, .mv (.t 0), none⟩,
         ⟨some 8, .len (.t 7), none⟩,
         ⟨some 9, .bin .lss (.t 6) (.t 8), none⟩] none)
       (.cond (.t 9) (.skip)
        (.exit 0)))
      (.seq (.blk 1 (.seq (.seq (.reg [0, 1, 5, 18] [] [
            ⟨some 12, .mv (.t 0), none⟩,
            ⟨some 13, .mv (.t 5), none⟩,
            ⟨some 14, .iad 5 (.t 12) (.t 13), none⟩,
            ⟨some 15, .fad (.t 14) 0, none⟩,
            ⟨some 16, .ld false 1 (.t 15), none⟩,
            ⟨some 17, .mv (.t 1), none⟩,
            ⟨some 18, .bin .neq (.t 16) (.t 17), none⟩] none)
          (.cond (.t 18) (.seq (.reg [4] [] [
              ⟨some 4, .mv (.c (.v false (.int .i64 (-1)))), none⟩] none)
            (.ret))
           (.skip)))
         (.seq (.reg [0, 1, 5] [] [
            ⟨some 19, .mv (.t 1), none⟩,
            ⟨some 20, .bin .add (.t 19) (.c (.v false (.int .i64 1))), none⟩,
            ⟨some 1, .mv (.t 20), none⟩] none)
          (.seq (.seq (.reg [0, 1, 5, 27] [] [
              ⟨some 21, .mv (.t 0), none⟩,
              ⟨some 22, .mv (.t 5), none⟩,
              ⟨some 23, .iad 5 (.t 21) (.t 22), none⟩,
              ⟨some 24, .fad (.t 23) 1, none⟩,
              ⟨some 25, .ld false 1 (.t 24), none⟩,
              ⟨some 26, .mv (.t 1), none⟩,
              ⟨some 27, .bin .neq (.t 25) (.t 26), none⟩] none)
            (.cond (.t 27) (.seq (.reg [4] [] [
                ⟨some 4, .mv (.c (.v false (.int .i64 (-1)))), none⟩] none)
              (.ret))
             (.skip)))
           (.seq (.reg [0, 1, 5] [] [
              ⟨some 28, .mv (.t 1), none⟩,
              ⟨some 29, .bin .add (.t 28) (.c (.v false (.int .i64 1))), none⟩,
              ⟨some 1, .mv (.t 29), none⟩] none)
            (.seq (.seq (.reg [0, 1, 5, 36] [] [
                ⟨some 30, .mv (.t 0), none⟩,
                ⟨some 31, .mv (.t 5), none⟩,
                ⟨some 32, .iad 5 (.t 30) (.t 31), none⟩,
                ⟨some 33, .fad (.t 32) 2, none⟩,
                ⟨some 34, .ld false 1 (.t 33), none⟩,
                ⟨some 35, .mv (.t 1), none⟩,
                ⟨some 36, .bin .neq (.t 34) (.t 35), none⟩] none)
              (.cond (.t 36) (.seq (.reg [4] [] [
                  ⟨some 4, .mv (.c (.v false (.int .i64 (-1)))), none⟩] none)
                (.ret))
               (.skip)))
             (.seq (.reg [0, 1, 5] [] [
                ⟨some 37, .mv (.t 1), none⟩,
                ⟨some 38, .bin .add (.t 37) (.c (.v false (.int .i64 1))), none⟩,
                ⟨some 1, .mv (.t 38), none⟩] none)
              (.seq (.seq (.reg [0, 1, 5, 45] [] [
                  ⟨some 39, .mv (.t 0), none⟩,
                  ⟨some 40, .mv (.t 5), none⟩,
                  ⟨some 41, .iad 5 (.t 39) (.t 40), none⟩,
                  ⟨some 42, .fad (.t 41) 3, none⟩,
                  ⟨some 43, .ld false 1 (.t 42), none⟩,
                  ⟨some 44, .mv (.t 1), none⟩,
                  ⟨some 45, .bin .neq (.t 43) (.t 44), none⟩] none)
                (.cond (.t 45) (.seq (.reg [4] [] [
                    ⟨some 4, .mv (.c (.v false (.int .i64 (-1)))), none⟩] none)
                  (.ret))
                 (.skip)))
               (.seq (.reg [0, 1, 5] [] [
                  ⟨some 46, .mv (.t 1), none⟩,
                  ⟨some 47, .bin .add (.t 46) (.c (.v false (.int .i64 1))), none⟩,
                  ⟨some 1, .mv (.t 47), none⟩] none)
                (.seq (.seq (.reg [0, 1, 5, 54] [] [
                    ⟨some 48, .mv (.t 0), none⟩,
                    ⟨some 49, .mv (.t 5), none⟩,
                    ⟨some 50, .iad 5 (.t 48) (.t 49), none⟩,
                    ⟨some 51, .fad (.t 50) 4, none⟩,
                    ⟨some 52, .ld false 1 (.t 51), none⟩,
                    ⟨some 53, .mv (.t 1), none⟩,
                    ⟨some 54, .bin .neq (.t 52) (.t 53), none⟩] none)
                  (.cond (.t 54) (.seq (.reg [4] [] [
                      ⟨some 4, .mv (.c (.v false (.int .i64 (-1)))), none⟩] none)
                    (.ret))
                   (.skip)))
                 (.reg [0, 1, 5] [] [
                   ⟨some 55, .mv (.t 1), none⟩,
                   ⟨some 56, .bin .add (.t 55) (.c (.v false (.int .i64 1))), none⟩,
                   ⟨some 1, .mv (.t 56), none⟩] none)))))))))))
       (.reg [0, 1, 5] [] [
         ⟨some 10, .mv (.t 5), none⟩,
         ⟨some 11, .bin .add (.t 10) (.c (.v false (.int .i64 1))), none⟩,
         ⟨some 5, .mv (.t 11), none⟩] none))

def pb177 : PC :=
.seq (.reg [0, 1] [] [
   ⟨some 4, .mv (.c (.v false (.int .i64 0))), none⟩] none)
 (.seq (.seq (.reg [0, 1, 5] [] [
     ⟨some 5, .mv (.c (.v false (.int .i64 0))), none⟩] none)
   (.blk 0 (.loop pl177_0)))
  (.seq (.reg [4] [] [
     ⟨some 57, .mv (.t 1), none⟩,
     ⟨some 4, .mv (.t 57), none⟩] none)
   (.ret)))

def pf177 : PF := ⟨[.s 4], [], pb177⟩

-- loop.example/g00496/laws.heldRowS
def pl178_0 : PC :=
.seq (.seq (.reg [0, 1, 5, 9] [] [
         ⟨some 6, .mv (.t 5), none⟩,
         ⟨some 7, .mv (.t 0), none⟩,
         ⟨some 8, .len (.t 7), none⟩,
         ⟨some 9, .bin .lss (.t 6) (.t 8), none⟩] none)
       (.cond (.t 9) (.skip)
        (.exit 0)))
      (.seq (.blk 1 (.seq (.seq (.reg [0, 1, 5, 18] [] [
            ⟨some 12, .mv (.t 0), none⟩,
            ⟨some 13, .mv (.t 5), none⟩,
            ⟨some 14, .iad 2 (.t 12) (.t 13), none⟩,
            ⟨some 15, .fad (.t 14) 0, none⟩,
            ⟨some 16, .ld false 1 (.t 15), none⟩,
            ⟨some 17, .mv (.t 1), none⟩,
            ⟨some 18, .bin .neq (.t 16) (.t 17), none⟩] none)
          (.cond (.t 18) (.seq (.reg [4] [] [
              ⟨some 4, .mv (.c (.v false (.int .i64 (-1)))), none⟩] none)
            (.ret))
           (.skip)))
         (.seq (.reg [0, 1, 5] [] [
            ⟨some 19, .mv (.t 1), none⟩,
            ⟨some 20, .bin .add (.t 19) (.c (.v false (.int .i64 1))), none⟩,
            ⟨some 1, .mv (.t 20), none⟩] none)
          (.seq (.reg [0, 1, 5] [(27, 1)] [
             ⟨some 21, .mv (.t 0), none⟩,
             ⟨some 22, .mv (.t 5), none⟩,
             ⟨some 23, .iad 2 (.t 21) (.t 22), none⟩,
             ⟨some 24, .fad (.t 23) 1, none⟩,
             ⟨some 25, .ld false 1 (.t 24), none⟩,
             ⟨some 26, .mv (.t 1), none⟩,
             ⟨some 27, .call 181 [] [(.t 25), (.t 26)], none⟩,
             ⟨some 1, .mv (.t 27), none⟩] none)
           (.seq (.reg [0, 1, 5, 29] [] [
              ⟨some 28, .mv (.t 1), none⟩,
              ⟨some 29, .bin .lss (.t 28) (.c (.v false (.int .i64 0))), none⟩] none)
            (.cond (.t 29) (.seq (.reg [4] [] [
                ⟨some 4, .mv (.c (.v false (.int .i64 (-1)))), none⟩] none)
              (.ret))
             (.skip)))))))
       (.reg [0, 1, 5] [] [
         ⟨some 10, .mv (.t 5), none⟩,
         ⟨some 11, .bin .add (.t 10) (.c (.v false (.int .i64 1))), none⟩,
         ⟨some 5, .mv (.t 11), none⟩] none))

def pb178 : PC :=
.seq (.reg [0, 1] [] [
   ⟨some 4, .mv (.c (.v false (.int .i64 0))), none⟩] none)
 (.seq (.seq (.reg [0, 1, 5] [] [
     ⟨some 5, .mv (.c (.v false (.int .i64 0))), none⟩] none)
   (.blk 0 (.loop pl178_0)))
  (.seq (.reg [1, 4] [] [
     ⟨some 30, .mv (.t 1), none⟩,
     ⟨some 4, .mv (.t 30), none⟩] none)
   (.ret)))

def pf178 : PF := ⟨[.s 4], [], pb178⟩

-- loop.example/g00496/laws.heldSlotS
def pl179_0 : PC :=
.seq (.seq (.reg [0, 1, 5, 9] [] [
         ⟨some 6, .mv (.t 5), none⟩,
         ⟨some 7, .mv (.t 0), none⟩,
         ⟨some 8, .len (.t 7), none⟩,
         ⟨some 9, .bin .lss (.t 6) (.t 8), none⟩] none)
       (.cond (.t 9) (.skip)
        (.exit 0)))
      (.seq (.blk 1 (.seq (.seq (.reg [0, 1, 5, 18] [] [
            ⟨some 12, .mv (.t 0), none⟩,
            ⟨some 13, .mv (.t 5), none⟩,
            ⟨some 14, .iad 2 (.t 12) (.t 13), none⟩,
            ⟨some 15, .fad (.t 14) 0, none⟩,
            ⟨some 16, .ld false 1 (.t 15), none⟩,
            ⟨some 17, .mv (.t 1), none⟩,
            ⟨some 18, .bin .neq (.t 16) (.t 17), none⟩] none)
          (.cond (.t 18) (.seq (.reg [4] [] [
              ⟨some 4, .mv (.c (.v false (.int .i64 (-1)))), none⟩] none)
            (.ret))
           (.skip)))
         (.seq (.reg [0, 1, 5] [] [
            ⟨some 19, .mv (.t 1), none⟩,
            ⟨some 20, .bin .add (.t 19) (.c (.v false (.int .i64 1))), none⟩,
            ⟨some 1, .mv (.t 20), none⟩] none)
          (.seq (.reg [0, 1, 5] [(27, 1)] [
             ⟨some 21, .mv (.t 0), none⟩,
             ⟨some 22, .mv (.t 5), none⟩,
             ⟨some 23, .iad 2 (.t 21) (.t 22), none⟩,
             ⟨some 24, .fad (.t 23) 1, none⟩,
             ⟨some 25, .ld false 1 (.t 24), none⟩,
             ⟨some 26, .mv (.t 1), none⟩,
             ⟨some 27, .call 181 [] [(.t 25), (.t 26)], none⟩,
             ⟨some 1, .mv (.t 27), none⟩] none)
           (.seq (.reg [0, 1, 5, 29] [] [
              ⟨some 28, .mv (.t 1), none⟩,
              ⟨some 29, .bin .lss (.t 28) (.c (.v false (.int .i64 0))), none⟩] none)
            (.cond (.t 29) (.seq (.reg [4] [] [
                ⟨some 4, .mv (.c (.v false (.int .i64 (-1)))), none⟩] none)
              (.ret))
             (.skip)))))))
       (.reg [0, 1, 5] [] [
         ⟨some 10, .mv (.t 5), none⟩,
         ⟨some 11, .bin .add (.t 10) (.c (.v false (.int .i64 1))), none⟩,
         ⟨some 5, .mv (.t 11), none⟩] none))

def pb179 : PC :=
.seq (.reg [0, 1] [] [
   ⟨some 4, .mv (.c (.v false (.int .i64 0))), none⟩] none)
 (.seq (.seq (.reg [0, 1, 5] [] [
     ⟨some 5, .mv (.c (.v false (.int .i64 0))), none⟩] none)
   (.blk 0 (.loop pl179_0)))
  (.seq (.reg [1, 4] [] [
     ⟨some 30, .mv (.t 1), none⟩,
     ⟨some 4, .mv (.t 30), none⟩] none)
   (.ret)))

def pf179 : PF := ⟨[.s 4], [], pb179⟩

-- loop.example/g00496/laws.heldTaskS
def pl180_0 : PC :=
.seq (.seq (.reg [0, 1, 5, 9] [] [
         ⟨some 6, .mv (.t 5), none⟩,
         ⟨some 7, .mv (.t 0), none⟩,
         ⟨some 8, .len (.t 7), none⟩,
         ⟨some 9, .bin .lss (.t 6) (.t 8), none⟩] none)
       (.cond (.t 9) (.skip)
        (.exit 0)))
      (.seq (.blk 1 (.seq (.seq (.reg [0, 1, 5, 18] [] [
            ⟨some 12, .mv (.t 0), none⟩,
            ⟨some 13, .mv (.t 5), none⟩,
            ⟨some 14, .iad 25 (.t 12) (.t 13), none⟩,
            ⟨some 15, .fad (.t 14) 0, none⟩,
            ⟨some 16, .ld false 1 (.t 15), none⟩,
            ⟨some 17, .mv (.t 1), none⟩,
            ⟨some 18, .bin .neq (.t 16) (.t 17), none⟩] none)
          (.cond (.t 18) (.seq (.reg [4] [] [
              ⟨some 4, .mv (.c (.v false (.int .i64 (-1)))), none⟩] none)
            (.ret))
           (.skip)))
         (.seq (.reg [0, 1, 5] [] [
            ⟨some 19, .mv (.t 1), none⟩,
            ⟨some 20, .bin .add (.t 19) (.c (.v false (.int .i64 1))), none⟩,
            ⟨some 1, .mv (.t 20), none⟩] none)
          (.seq (.seq (.reg [0, 1, 5, 27] [] [
              ⟨some 21, .mv (.t 0), none⟩,
              ⟨some 22, .mv (.t 5), none⟩,
              ⟨some 23, .iad 25 (.t 21) (.t 22), none⟩,
              ⟨some 24, .fad (.t 23) 1, none⟩,
              ⟨some 25, .ld false 1 (.t 24), none⟩,
              ⟨some 26, .mv (.t 1), none⟩,
              ⟨some 27, .bin .neq (.t 25) (.t 26), none⟩] none)
            (.cond (.t 27) (.seq (.reg [4] [] [
                ⟨some 4, .mv (.c (.v false (.int .i64 (-1)))), none⟩] none)
              (.ret))
             (.skip)))
           (.seq (.reg [0, 1, 5] [] [
              ⟨some 28, .mv (.t 1), none⟩,
              ⟨some 29, .bin .add (.t 28) (.c (.v false (.int .i64 1))), none⟩,
              ⟨some 1, .mv (.t 29), none⟩] none)
            (.seq (.seq (.reg [0, 1, 5, 36] [] [
                ⟨some 30, .mv (.t 0), none⟩,
                ⟨some 31, .mv (.t 5), none⟩,
                ⟨some 32, .iad 25 (.t 30) (.t 31), none⟩,
                ⟨some 33, .fad (.t 32) 2, none⟩,
                ⟨some 34, .ld false 1 (.t 33), none⟩,
                ⟨some 35, .mv (.t 1), none⟩,
                ⟨some 36, .bin .neq (.t 34) (.t 35), none⟩] none)
              (.cond (.t 36) (.seq (.reg [4] [] [
                  ⟨some 4, .mv (.c (.v false (.int .i64 (-1)))), none⟩] none)
                (.ret))
               (.skip)))
             (.seq (.reg [0, 1, 5] [] [
                ⟨some 37, .mv (.t 1), none⟩,
                ⟨some 38, .bin .add (.t 37) (.c (.v false (.int .i64 1))), none⟩,
                ⟨some 1, .mv (.t 38), none⟩] none)
              (.seq (.reg [0, 1, 5] [(45, 1)] [
                 ⟨some 39, .mv (.t 0), none⟩,
                 ⟨some 40, .mv (.t 5), none⟩,
                 ⟨some 41, .iad 25 (.t 39) (.t 40), none⟩,
                 ⟨some 42, .fad (.t 41) 3, none⟩,
                 ⟨some 43, .ld false 1 (.t 42), none⟩,
                 ⟨some 44, .mv (.t 1), none⟩,
                 ⟨some 45, .call 181 [] [(.t 43), (.t 44)], none⟩,
                 ⟨some 1, .mv (.t 45), none⟩] none)
               (.seq (.seq (.reg [0, 1, 5, 47] [] [
                   ⟨some 46, .mv (.t 1), none⟩,
                   ⟨some 47, .bin .lss (.t 46) (.c (.v false (.int .i64 0))), none⟩] none)
                 (.cond (.t 47) (.seq (.reg [4] [] [
                     ⟨some 4, .mv (.c (.v false (.int .i64 (-1)))), none⟩] none)
                   (.ret))
                  (.skip)))
                (.seq (.seq (.reg [0, 1, 5, 54] [] [
                    ⟨some 48, .mv (.t 0), none⟩,
                    ⟨some 49, .mv (.t 5), none⟩,
                    ⟨some 50, .iad 25 (.t 48) (.t 49), none⟩,
                    ⟨some 51, .fad (.t 50) 4, none⟩,
                    ⟨some 52, .ld false 1 (.t 51), none⟩,
                    ⟨some 53, .mv (.t 1), none⟩,
                    ⟨some 54, .bin .neq (.t 52) (.t 53), none⟩] none)
                  (.cond (.t 54) (.seq (.reg [4] [] [
                      ⟨some 4, .mv (.c (.v false (.int .i64 (-1)))), none⟩] none)
                    (.ret))
                   (.skip)))
                 (.seq (.reg [0, 1, 5] [] [
                    ⟨some 55, .mv (.t 1), none⟩,
                    ⟨some 56, .bin .add (.t 55) (.c (.v false (.int .i64 1))), none⟩,
                    ⟨some 1, .mv (.t 56), none⟩] none)
                  (.seq (.seq (.reg [0, 1, 5, 64] [] [
                      ⟨some 57, .mv (.t 0), none⟩,
                      ⟨some 58, .mv (.t 5), none⟩,
                      ⟨some 59, .iad 25 (.t 57) (.t 58), none⟩,
                      ⟨some 60, .fad (.t 59) 5, none⟩,
                      ⟨some 61, .fad (.t 60) 0, none⟩,
                      ⟨some 62, .ld false 1 (.t 61), none⟩,
                      ⟨some 63, .mv (.t 1), none⟩,
                      ⟨some 64, .bin .neq (.t 62) (.t 63), none⟩] none)
                    (.cond (.t 64) (.seq (.reg [4] [] [
                        ⟨some 4, .mv (.c (.v false (.int .i64 (-1)))), none⟩] none)
                      (.ret))
                     (.skip)))
                   (.seq (.reg [0, 1, 5] [] [
                      ⟨some 65, .mv (.t 1), none⟩,
                      ⟨some 66, .bin .add (.t 65) (.c (.v false (.int .i64 1))), none⟩,
                      ⟨some 1, .mv (.t 66), none⟩] none)
                    (.seq (.seq (.reg [0, 1, 5, 75] [] [
                        ⟨some 67, .mv (.t 0), none⟩,
                        ⟨some 68, .mv (.t 5), none⟩,
                        ⟨some 69, .iad 25 (.t 67) (.t 68), none⟩,
                        ⟨some 70, .fad (.t 69) 5, none⟩,
                        ⟨some 71, .fad (.t 70) 1, none⟩,
                        ⟨some 72, .fad (.t 71) 0, none⟩,
                        ⟨some 73, .ld false 1 (.t 72), none⟩,
                        ⟨some 74, .mv (.t 1), none⟩,
                        ⟨some 75, .bin .neq (.t 73) (.t 74), none⟩] none)
                      (.cond (.t 75) (.seq (.reg [4] [] [
                          ⟨some 4, .mv (.c (.v false (.int .i64 (-1)))), none⟩] none)
                        (.ret))
                       (.skip)))
                     (.seq (.reg [0, 1, 5] [] [
                        ⟨some 76, .mv (.t 1), none⟩,
                        ⟨some 77, .bin .add (.t 76) (.c (.v false (.int .i64 1))), none⟩,
                        ⟨some 1, .mv (.t 77), none⟩] none)
                      (.seq (.seq (.reg [0, 1, 5, 86] [] [
                          ⟨some 78, .mv (.t 0), none⟩,
                          ⟨some 79, .mv (.t 5), none⟩,
                          ⟨some 80, .iad 25 (.t 78) (.t 79), none⟩,
                          ⟨some 81, .fad (.t 80) 5, none⟩,
                          ⟨some 82, .fad (.t 81) 1, none⟩,
                          ⟨some 83, .fad (.t 82) 1, none⟩,
                          ⟨some 84, .ld false 1 (.t 83), none⟩,
                          ⟨some 85, .mv (.t 1), none⟩,
                          ⟨some 86, .bin .neq (.t 84) (.t 85), none⟩] none)
                        (.cond (.t 86) (.seq (.reg [4] [] [
                            ⟨some 4, .mv (.c (.v false (.int .i64 (-1)))), none⟩] none)
                          (.ret))
                         (.skip)))
                       (.seq (.reg [0, 1, 5] [] [
                          ⟨some 87, .mv (.t 1), none⟩,
                          ⟨some 88, .bin .add (.t 87) (.c (.v false (.int .i64 1))), none⟩,
                          ⟨some 1, .mv (.t 88), none⟩] none)
                        (.seq (.seq (.reg [0, 1, 5, 97] [] [
                            ⟨some 89, .mv (.t 0), none⟩,
                            ⟨some 90, .mv (.t 5), none⟩,
                            ⟨some 91, .iad 25 (.t 89) (.t 90), none⟩,
                            ⟨some 92, .fad (.t 91) 5, none⟩,
                            ⟨some 93, .fad (.t 92) 1, none⟩,
                            ⟨some 94, .fad (.t 93) 2, none⟩,
                            ⟨some 95, .ld false 1 (.t 94), none⟩,
                            ⟨some 96, .mv (.t 1), none⟩,
                            ⟨some 97, .bin .neq (.t 95) (.t 96), none⟩] none)
                          (.cond (.t 97) (.seq (.reg [4] [] [
                              ⟨some 4, .mv (.c (.v false (.int .i64 (-1)))), none⟩] none)
                            (.ret))
                           (.skip)))
                         (.seq (.reg [0, 1, 5] [] [
                            ⟨some 98, .mv (.t 1), none⟩,
                            ⟨some 99, .bin .add (.t 98) (.c (.v false (.int .i64 1))), none⟩,
                            ⟨some 1, .mv (.t 99), none⟩] none)
                          (.seq (.seq (.reg [0, 1, 5, 109] [] [
                              ⟨some 100, .mv (.t 0), none⟩,
                              ⟨some 101, .mv (.t 5), none⟩,
                              ⟨some 102, .iad 25 (.t 100) (.t 101), none⟩,
                              ⟨some 103, .fad (.t 102) 5, none⟩,
                              ⟨some 104, .fad (.t 103) 1, none⟩,
                              ⟨some 105, .fad (.t 104) 3, none⟩,
                              ⟨some 106, .fad (.t 105) 0, none⟩,
                              ⟨some 107, .ld false 1 (.t 106), none⟩,
                              ⟨some 108, .mv (.t 1), none⟩,
                              ⟨some 109, .bin .neq (.t 107) (.t 108), none⟩] none)
                            (.cond (.t 109) (.seq (.reg [4] [] [
                                ⟨some 4, .mv (.c (.v false (.int .i64 (-1)))), none⟩] none)
                              (.ret))
                             (.skip)))
                           (.seq (.reg [0, 1, 5] [] [
                              ⟨some 110, .mv (.t 1), none⟩,
                              ⟨some 111, .bin .add (.t 110) (.c (.v false (.int .i64 1))), none⟩,
                              ⟨some 1, .mv (.t 111), none⟩] none)
                            (.seq (.seq (.reg [0, 1, 5, 121] [] [
                                ⟨some 112, .mv (.t 0), none⟩,
                                ⟨some 113, .mv (.t 5), none⟩,
                                ⟨some 114, .iad 25 (.t 112) (.t 113), none⟩,
                                ⟨some 115, .fad (.t 114) 5, none⟩,
                                ⟨some 116, .fad (.t 115) 1, none⟩,
                                ⟨some 117, .fad (.t 116) 3, none⟩,
                                ⟨some 118, .fad (.t 117) 1, none⟩,
                                ⟨some 119, .ld false 1 (.t 118), none⟩,
                                ⟨some 120, .mv (.t 1), none⟩,
                                ⟨some 121, .bin .neq (.t 119) (.t 120), none⟩] none)
                              (.cond (.t 121) (.seq (.reg [4] [] [
                                  ⟨some 4, .mv (.c (.v false (.int .i64 (-1)))), none⟩] none)
                                (.ret))
                               (.skip)))
                             (.seq (.reg [0, 1, 5] [] [
                                ⟨some 122, .mv (.t 1), none⟩,
                                ⟨some 123, .bin .add (.t 122) (.c (.v false (.int .i64 1))), none⟩,
                                ⟨some 1, .mv (.t 123), none⟩] none)
                              (.seq (.seq (.reg [0, 1, 5, 134] [] [
                                  ⟨some 124, .mv (.t 0), none⟩,
                                  ⟨some 125, .mv (.t 5), none⟩,
                                  ⟨some 126, .iad 25 (.t 124) (.t 125), none⟩,
                                  ⟨some 127, .fad (.t 126) 5, none⟩,
                                  ⟨some 128, .fad (.t 127) 1, none⟩,
                                  ⟨some 129, .fad (.t 128) 3, none⟩,
                                  ⟨some 130, .fad (.t 129) 2, none⟩,
                                  ⟨some 131, .ld false 1 (.t 130), none⟩,
                                  ⟨some 132, .mv (.t 1), none⟩,
                                  ⟨some 133, .call 196 [] [(.t 132)], none⟩,
                                  ⟨some 134, .bin .neq (.t 131) (.t 133), none⟩] (some [(2, 9), (7, 9)]))
                                (.cond (.t 134) (.seq (.reg [4] [] [
                                    ⟨some 4, .mv (.c (.v false (.int .i64 (-1)))), none⟩] none)
                                  (.ret))
                                 (.skip)))
                               (.seq (.reg [0, 1, 5] [] [
                                  ⟨some 135, .mv (.t 1), none⟩,
                                  ⟨some 136, .bin .add (.t 135) (.c (.v false (.int .i64 1))), none⟩,
                                  ⟨some 1, .mv (.t 136), none⟩] none)
                                (.seq (.reg [0, 1, 5] [(145, 1)] [
                                   ⟨some 137, .mv (.t 0), none⟩,
                                   ⟨some 138, .mv (.t 5), none⟩,
                                   ⟨some 139, .iad 25 (.t 137) (.t 138), none⟩,
                                   ⟨some 140, .fad (.t 139) 5, none⟩,
                                   ⟨some 141, .fad (.t 140) 1, none⟩,
                                   ⟨some 142, .fad (.t 141) 6, none⟩,
                                   ⟨some 143, .ld false 1 (.t 142), none⟩,
                                   ⟨some 144, .mv (.t 1), none⟩,
                                   ⟨some 145, .call 176 [] [(.t 143), (.t 144)], none⟩,
                                   ⟨some 1, .mv (.t 145), none⟩] none)
                                 (.seq (.seq (.reg [0, 1, 5, 147] [] [
                                     ⟨some 146, .mv (.t 1), none⟩,
                                     ⟨some 147, .bin .lss (.t 146) (.c (.v false (.int .i64 0))), none⟩] none)
                                   (.cond (.t 147) (.seq (.reg [4] [] [
                                       ⟨some 4, .mv (.c (.v false (.int .i64 (-1)))), none⟩] none)
                                     (.ret))
                                    (.skip)))
                                  (.seq (.seq (.reg [0, 1, 5, 155] [] [
                                      ⟨some 148, .mv (.t 0), none⟩,
                                      ⟨some 149, .mv (.t 5), none⟩,
                                      ⟨some 150, .iad 25 (.t 148) (.t 149), none⟩,
                                      ⟨some 151, .fad (.t 150) 5, none⟩,
                                      ⟨some 152, .fad (.t 151) 8, none⟩,
                                      ⟨some 153, .ld false 1 (.t 152), none⟩,
                                      ⟨some 154, .mv (.t 1), none⟩,
                                      ⟨some 155, .bin .neq (.t 153) (.t 154), none⟩] none)
                                    (.cond (.t 155) (.seq (.reg [4] [] [
                                        ⟨some 4, .mv (.c (.v false (.int .i64 (-1)))), none⟩] none)
                                      (.ret))
                                     (.skip)))
                                   (.seq (.reg [0, 1, 5] [] [
                                      ⟨some 156, .mv (.t 1), none⟩,
                                      ⟨some 157, .bin .add (.t 156) (.c (.v false (.int .i64 1))), none⟩,
                                      ⟨some 1, .mv (.t 157), none⟩] none)
                                    (.seq (.reg [0, 1, 5] [(165, 1)] [
                                       ⟨some 158, .mv (.t 0), none⟩,
                                       ⟨some 159, .mv (.t 5), none⟩,
                                       ⟨some 160, .iad 25 (.t 158) (.t 159), none⟩,
                                       ⟨some 161, .fad (.t 160) 5, none⟩,
                                       ⟨some 162, .fad (.t 161) 9, none⟩,
                                       ⟨some 163, .ld false 1 (.t 162), none⟩,
                                       ⟨some 164, .mv (.t 1), none⟩,
                                       ⟨some 165, .call 175 [] [(.t 163), (.t 164)], none⟩,
                                       ⟨some 1, .mv (.t 165), none⟩] none)
                                     (.seq (.seq (.reg [0, 1, 5, 167] [] [
                                         ⟨some 166, .mv (.t 1), none⟩,
                                         ⟨some 167, .bin .lss (.t 166) (.c (.v false (.int .i64 0))), none⟩] none)
                                       (.cond (.t 167) (.seq (.reg [4] [] [
                                           ⟨some 4, .mv (.c (.v false (.int .i64 (-1)))), none⟩] none)
                                         (.ret))
                                        (.skip)))
                                      (.seq (.seq (.reg [0, 1, 5, 174] [] [
                                          ⟨some 168, .mv (.t 0), none⟩,
                                          ⟨some 169, .mv (.t 5), none⟩,
                                          ⟨some 170, .iad 25 (.t 168) (.t 169), none⟩,
                                          ⟨some 171, .fad (.t 170) 15, none⟩,
                                          ⟨some 172, .ld false 1 (.t 171), none⟩,
                                          ⟨some 173, .mv (.t 1), none⟩,
                                          ⟨some 174, .bin .neq (.t 172) (.t 173), none⟩] none)
                                        (.cond (.t 174) (.seq (.reg [4] [] [
                                            ⟨some 4, .mv (.c (.v false (.int .i64 (-1)))), none⟩] none)
                                          (.ret))
                                         (.skip)))
                                       (.seq (.reg [0, 1, 5] [] [
                                          ⟨some 175, .mv (.t 1), none⟩,
                                          ⟨some 176, .bin .add (.t 175) (.c (.v false (.int .i64 1))), none⟩,
                                          ⟨some 1, .mv (.t 176), none⟩] none)
                                        (.seq (.seq (.reg [0, 1, 5, 183] [] [
                                            ⟨some 177, .mv (.t 0), none⟩,
                                            ⟨some 178, .mv (.t 5), none⟩,
                                            ⟨some 179, .iad 25 (.t 177) (.t 178), none⟩,
                                            ⟨some 180, .fad (.t 179) 16, none⟩,
                                            ⟨some 181, .ld false 1 (.t 180), none⟩,
                                            ⟨some 182, .mv (.t 1), none⟩,
                                            ⟨some 183, .bin .neq (.t 181) (.t 182), none⟩] none)
                                          (.cond (.t 183) (.seq (.reg [4] [] [
                                              ⟨some 4, .mv (.c (.v false (.int .i64 (-1)))), none⟩] none)
                                            (.ret))
                                           (.skip)))
                                         (.seq (.reg [0, 1, 5] [] [
                                            ⟨some 184, .mv (.t 1), none⟩,
                                            ⟨some 185, .bin .add (.t 184) (.c (.v false (.int .i64 1))), none⟩,
                                            ⟨some 1, .mv (.t 185), none⟩] none)
                                          (.seq (.reg [0, 1, 5] [(192, 1)] [
                                             ⟨some 186, .mv (.t 0), none⟩,
                                             ⟨some 187, .mv (.t 5), none⟩,
                                             ⟨some 188, .iad 25 (.t 186) (.t 187), none⟩,
                                             ⟨some 189, .fad (.t 188) 17, none⟩,
                                             ⟨some 190, .ld false 1 (.t 189), none⟩,
                                             ⟨some 191, .mv (.t 1), none⟩,
                                             ⟨some 192, .call 177 [] [(.t 190), (.t 191)], none⟩,
                                             ⟨some 1, .mv (.t 192), none⟩] none)
                                           (.seq (.seq (.reg [0, 1, 5, 194] [] [
                                               ⟨some 193, .mv (.t 1), none⟩,
                                               ⟨some 194, .bin .lss (.t 193) (.c (.v false (.int .i64 0))), none⟩] none)
                                             (.cond (.t 194) (.seq (.reg [4] [] [
                                                 ⟨some 4, .mv (.c (.v false (.int .i64 (-1)))), none⟩] none)
                                               (.ret))
                                              (.skip)))
                                            (.seq (.seq (.reg [0, 1, 5, 201] [] [
                                                ⟨some 195, .mv (.t 0), none⟩,
                                                ⟨some 196, .mv (.t 5), none⟩,
                                                ⟨some 197, .iad 25 (.t 195) (.t 196), none⟩,
                                                ⟨some 198, .fad (.t 197) 18, none⟩,
                                                ⟨some 199, .ld false 1 (.t 198), none⟩,
                                                ⟨some 200, .mv (.t 1), none⟩,
                                                ⟨some 201, .bin .neq (.t 199) (.t 200), none⟩] none)
                                              (.cond (.t 201) (.seq (.reg [4] [] [
                                                  ⟨some 4, .mv (.c (.v false (.int .i64 (-1)))), none⟩] none)
                                                (.ret))
                                               (.skip)))
                                             (.seq (.reg [0, 1, 5] [] [
                                                ⟨some 202, .mv (.t 1), none⟩,
                                                ⟨some 203, .bin .add (.t 202) (.c (.v false (.int .i64 1))), none⟩,
                                                ⟨some 1, .mv (.t 203), none⟩] none)
                                              (.seq (.seq (.reg [0, 1, 5, 210] [] [
                                                  ⟨some 204, .mv (.t 0), none⟩,
                                                  ⟨some 205, .mv (.t 5), none⟩,
                                                  ⟨some 206, .iad 25 (.t 204) (.t 205), none⟩,
                                                  ⟨some 207, .fad (.t 206) 19, none⟩,
                                                  ⟨some 208, .ld false 1 (.t 207), none⟩,
                                                  ⟨some 209, .mv (.t 1), none⟩,
                                                  ⟨some 210, .bin .neq (.t 208) (.t 209), none⟩] none)
                                                (.cond (.t 210) (.seq (.reg [4] [] [
                                                    ⟨some 4, .mv (.c (.v false (.int .i64 (-1)))), none⟩] none)
                                                  (.ret))
                                                 (.skip)))
                                               (.seq (.reg [0, 1, 5] [] [
                                                  ⟨some 211, .mv (.t 1), none⟩,
                                                  ⟨some 212, .bin .add (.t 211) (.c (.v false (.int .i64 1))), none⟩,
                                                  ⟨some 1, .mv (.t 212), none⟩] none)
                                                (.seq (.seq (.reg [0, 1, 5, 219] [] [
                                                    ⟨some 213, .mv (.t 0), none⟩,
                                                    ⟨some 214, .mv (.t 5), none⟩,
                                                    ⟨some 215, .iad 25 (.t 213) (.t 214), none⟩,
                                                    ⟨some 216, .fad (.t 215) 20, none⟩,
                                                    ⟨some 217, .ld false 1 (.t 216), none⟩,
                                                    ⟨some 218, .mv (.t 1), none⟩,
                                                    ⟨some 219, .bin .neq (.t 217) (.t 218), none⟩] none)
                                                  (.cond (.t 219) (.seq (.reg [4] [] [
                                                      ⟨some 4, .mv (.c (.v false (.int .i64 (-1)))), none⟩] none)
                                                    (.ret))
                                                   (.skip)))
                                                 (.seq (.reg [0, 1, 5] [] [
                                                    ⟨some 220, .mv (.t 1), none⟩,
                                                    ⟨some 221, .bin .add (.t 220) (.c (.v false (.int .i64 1))), none⟩,
                                                    ⟨some 1, .mv (.t 221), none⟩] none)
                                                  (.seq (.seq (.reg [0, 1, 5, 228] [] [
                                                      ⟨some 222, .mv (.t 0), none⟩,
                                                      ⟨some 223, .mv (.t 5), none⟩,
                                                      ⟨some 224, .iad 25 (.t 222) (.t 223), none⟩,
                                                      ⟨some 225, .fad (.t 224) 21, none⟩,
                                                      ⟨some 226, .ld false 1 (.t 225), none⟩,
                                                      ⟨some 227, .mv (.t 1), none⟩,
                                                      ⟨some 228, .bin .neq (.t 226) (.t 227), none⟩] none)
                                                    (.cond (.t 228) (.seq (.reg [4] [] [
                                                        ⟨some 4, .mv (.c (.v false (.int .i64 (-1)))), none⟩] none)
                                                      (.ret))
                                                     (.skip)))
                                                   (.seq (.reg [0, 1, 5] [] [
                                                      ⟨some 229, .mv (.t 1), none⟩,
                                                      ⟨some 230, .bin .add (.t 229) (.c (.v false (.int .i64 1))), none⟩,
                                                      ⟨some 1, .mv (.t 230), none⟩] none)
                                                    (.seq (.seq (.reg [0, 1, 5, 237] [] [
                                                        ⟨some 231, .mv (.t 0), none⟩,
                                                        ⟨some 232, .mv (.t 5), none⟩,
                                                        ⟨some 233, .iad 25 (.t 231) (.t 232), none⟩,
                                                        ⟨some 234, .fad (.t 233) 22, none⟩,
                                                        ⟨some 235, .ld false 1 (.t 234), none⟩,
                                                        ⟨some 236, .mv (.t 1), none⟩,
                                                        ⟨some 237, .bin .neq (.t 235) (.t 236), none⟩] none)
                                                      (.cond (.t 237) (.seq (.reg [4] [] [
                                                          ⟨some 4, .mv (.c (.v false (.int .i64 (-1)))), none⟩] none)
                                                        (.ret))
                                                       (.skip)))
                                                     (.seq (.reg [0, 1, 5] [] [
                                                        ⟨some 238, .mv (.t 1), none⟩,
                                                        ⟨some 239, .bin .add (.t 238) (.c (.v false (.int .i64 1))), none⟩,
                                                        ⟨some 1, .mv (.t 239), none⟩] none)
                                                      (.seq (.seq (.reg [0, 1, 5, 248] [] [
                                                          ⟨some 240, .mv (.t 0), none⟩,
                                                          ⟨some 241, .mv (.t 5), none⟩,
                                                          ⟨some 242, .iad 25 (.t 240) (.t 241), none⟩,
                                                          ⟨some 243, .fad (.t 242) 23, none⟩,
                                                          ⟨some 244, .ld false 1 (.t 243), none⟩,
                                                          ⟨some 245, .mv (.t 1), none⟩,
                                                          ⟨some 246, .bin .rem (.t 245) (.c (.v false (.int .i64 3))), none⟩,
                                                          ⟨some 247, .bin .eql (.t 246) (.c (.v false (.int .i64 0))), none⟩,
                                                          ⟨some 248, .eqb true (.t 244) (.t 247), none⟩] none)
                                                        (.cond (.t 248) (.seq (.reg [4] [] [
                                                            ⟨some 4, .mv (.c (.v false (.int .i64 (-1)))), none⟩] none)
                                                          (.ret))
                                                         (.skip)))
                                                       (.seq (.reg [0, 1, 5] [] [
                                                          ⟨some 249, .mv (.t 1), none⟩,
                                                          ⟨some 250, .bin .add (.t 249) (.c (.v false (.int .i64 1))), none⟩,
                                                          ⟨some 1, .mv (.t 250), none⟩] none)
                                                        (.seq (.reg [0, 1, 5] [(257, 1)] [
                                                           ⟨some 251, .mv (.t 0), none⟩,
                                                           ⟨some 252, .mv (.t 5), none⟩,
                                                           ⟨some 253, .iad 25 (.t 251) (.t 252), none⟩,
                                                           ⟨some 254, .fad (.t 253) 24, none⟩,
                                                           ⟨some 255, .ld false 1 (.t 254), none⟩,
                                                           ⟨some 256, .mv (.t 1), none⟩,
                                                           ⟨some 257, .call 178 [] [(.t 255), (.t 256)], none⟩,
                                                           ⟨some 1, .mv (.t 257), none⟩] none)
                                                         (.seq (.reg [0, 1, 5, 259] [] [
                                                            ⟨some 258, .mv (.t 1), none⟩,
                                                            ⟨some 259, .bin .lss (.t 258) (.c (.v false (.int .i64 0))), none⟩] none)
                                                          (.cond (.t 259) (.seq (.reg [4] [] [
                                                              ⟨some 4, .mv (.c (.v false (.int .i64 (-1)))), none⟩] none)
                                                            (.ret))
                                                           (.skip)))))))))))))))))))))))))))))))))))))))))))))))))))))
       (.reg [0, 1, 5] [] [
         ⟨some 10, .mv (.t 5), none⟩,
         ⟨some 11, .bin .add (.t 10) (.c (.v false (.int .i64 1))), none⟩,
         ⟨some 5, .mv (.t 11), none⟩] none))

def pb180 : PC :=
.seq (.reg [0, 1] [] [
   ⟨some 4, .mv (.c (.v false (.int .i64 0))), none⟩] none)
 (.seq (.seq (.reg [0, 1, 5] [] [
     ⟨some 5, .mv (.c (.v false (.int .i64 0))), none⟩] none)
   (.blk 0 (.loop pl180_0)))
  (.seq (.reg [1, 4] [] [
     ⟨some 260, .mv (.t 1), none⟩,
     ⟨some 4, .mv (.t 260), none⟩] none)
   (.ret)))

def pf180 : PF := ⟨[.s 4], [], pb180⟩

-- loop.example/g00496/laws.heldValS
def pl181_0 : PC :=
.seq (.seq (.reg [0, 1, 5, 9] [] [
         ⟨some 6, .mv (.t 5), none⟩,
         ⟨some 7, .mv (.t 0), none⟩,
         ⟨some 8, .len (.t 7), none⟩,
         ⟨some 9, .bin .lss (.t 6) (.t 8), none⟩] none)
       (.cond (.t 9) (.skip)
        (.exit 0)))
      (.seq (.blk 1 (.seq (.seq (.reg [0, 1, 5, 18] [] [
            ⟨some 12, .mv (.t 0), none⟩,
            ⟨some 13, .mv (.t 5), none⟩,
            ⟨some 14, .iad 3 (.t 12) (.t 13), none⟩,
            ⟨some 15, .fad (.t 14) 0, none⟩,
            ⟨some 16, .ld false 1 (.t 15), none⟩,
            ⟨some 17, .mv (.t 1), none⟩,
            ⟨some 18, .bin .neq (.t 16) (.t 17), none⟩] none)
          (.cond (.t 18) (.seq (.reg [4] [] [
              ⟨some 4, .mv (.c (.v false (.int .i64 (-1)))), none⟩] none)
            (.ret))
           (.skip)))
         (.seq (.reg [0, 1, 5] [] [
            ⟨some 19, .mv (.t 1), none⟩,
            ⟨some 20, .bin .add (.t 19) (.c (.v false (.int .i64 1))), none⟩,
            ⟨some 1, .mv (.t 20), none⟩] none)
          (.seq (.seq (.reg [0, 1, 5, 27] [] [
              ⟨some 21, .mv (.t 0), none⟩,
              ⟨some 22, .mv (.t 5), none⟩,
              ⟨some 23, .iad 3 (.t 21) (.t 22), none⟩,
              ⟨some 24, .fad (.t 23) 1, none⟩,
              ⟨some 25, .ld false 1 (.t 24), none⟩,
              ⟨some 26, .mv (.t 1), none⟩,
              ⟨some 27, .bin .neq (.t 25) (.t 26), none⟩] none)
            (.cond (.t 27) (.seq (.reg [4] [] [
                ⟨some 4, .mv (.c (.v false (.int .i64 (-1)))), none⟩] none)
              (.ret))
             (.skip)))
           (.seq (.reg [0, 1, 5] [] [
              ⟨some 28, .mv (.t 1), none⟩,
              ⟨some 29, .bin .add (.t 28) (.c (.v false (.int .i64 1))), none⟩,
              ⟨some 1, .mv (.t 29), none⟩] none)
            (.seq (.seq (.reg [0, 1, 5, 37] [] [
                ⟨some 30, .mv (.t 0), none⟩,
                ⟨some 31, .mv (.t 5), none⟩,
                ⟨some 32, .iad 3 (.t 30) (.t 31), none⟩,
                ⟨some 33, .fad (.t 32) 2, none⟩,
                ⟨some 34, .ld false 1 (.t 33), none⟩,
                ⟨some 35, .mv (.t 1), none⟩,
                ⟨some 36, .call 196 [] [(.t 35)], none⟩,
                ⟨some 37, .bin .neq (.t 34) (.t 36), none⟩] (some [(2, 6), (4, 6)]))
              (.cond (.t 37) (.seq (.reg [4] [] [
                  ⟨some 4, .mv (.c (.v false (.int .i64 (-1)))), none⟩] none)
                (.ret))
               (.skip)))
             (.reg [0, 1, 5] [] [
               ⟨some 38, .mv (.t 1), none⟩,
               ⟨some 39, .bin .add (.t 38) (.c (.v false (.int .i64 1))), none⟩,
               ⟨some 1, .mv (.t 39), none⟩] none)))))))
       (.reg [0, 1, 5] [] [
         ⟨some 10, .mv (.t 5), none⟩,
         ⟨some 11, .bin .add (.t 10) (.c (.v false (.int .i64 1))), none⟩,
         ⟨some 5, .mv (.t 11), none⟩] none))

def pb181 : PC :=
.seq (.reg [0, 1] [] [
   ⟨some 4, .mv (.c (.v false (.int .i64 0))), none⟩] none)
 (.seq (.seq (.reg [0, 1, 5] [] [
     ⟨some 5, .mv (.c (.v false (.int .i64 0))), none⟩] none)
   (.blk 0 (.loop pl181_0)))
  (.seq (.reg [4] [] [
     ⟨some 40, .mv (.t 1), none⟩,
     ⟨some 4, .mv (.t 40), none⟩] none)
   (.ret)))

def pf181 : PF := ⟨[.s 4], [], pb181⟩

-- loop.example/g00496/laws.heldWorld
def pb182 : PC :=
.seq (.reg [1, 2] [] [
   ⟨some 2, .box 14 (.t 0), none⟩,
   ⟨some 4, .mv (.c (.v false (.int .i64 0))), none⟩] none)
 (.seq (.reg [1, 2] [(8, 1)] [
    ⟨some 5, .fad (.t 2) 0, none⟩,
    ⟨some 6, .ld true 3 (.t 5), none⟩,
    ⟨some 7, .mv (.t 1), none⟩,
    ⟨some 8, .call 171 [] [(.t 6), (.t 7)], none⟩,
    ⟨some 1, .mv (.t 8), none⟩] none)
  (.seq (.seq (.reg [1, 2, 10] [] [
      ⟨some 9, .mv (.t 1), none⟩,
      ⟨some 10, .bin .lss (.t 9) (.c (.v false (.int .i64 0))), none⟩] none)
    (.cond (.t 10) (.seq (.reg [4] [] [
        ⟨some 4, .mv (.c (.v false (.int .i64 (-1)))), none⟩] none)
      (.ret))
     (.skip)))
   (.seq (.reg [1, 2] [(14, 1)] [
      ⟨some 11, .fad (.t 2) 6, none⟩,
      ⟨some 12, .ld true 2 (.t 11), none⟩,
      ⟨some 13, .mv (.t 1), none⟩,
      ⟨some 14, .call 174 [] [(.t 12), (.t 13)], none⟩,
      ⟨some 1, .mv (.t 14), none⟩] none)
    (.seq (.seq (.reg [1, 2, 16] [] [
        ⟨some 15, .mv (.t 1), none⟩,
        ⟨some 16, .bin .lss (.t 15) (.c (.v false (.int .i64 0))), none⟩] none)
      (.cond (.t 16) (.seq (.reg [4] [] [
          ⟨some 4, .mv (.c (.v false (.int .i64 (-1)))), none⟩] none)
        (.ret))
       (.skip)))
     (.seq (.reg [1, 2] [(20, 1)] [
        ⟨some 17, .fad (.t 2) 8, none⟩,
        ⟨some 18, .ld false 1 (.t 17), none⟩,
        ⟨some 19, .mv (.t 1), none⟩,
        ⟨some 20, .call 168 [] [(.t 18), (.t 19)], none⟩,
        ⟨some 1, .mv (.t 20), none⟩] none)
      (.seq (.seq (.reg [1, 2, 22] [] [
          ⟨some 21, .mv (.t 1), none⟩,
          ⟨some 22, .bin .lss (.t 21) (.c (.v false (.int .i64 0))), none⟩] none)
        (.cond (.t 22) (.seq (.reg [4] [] [
            ⟨some 4, .mv (.c (.v false (.int .i64 (-1)))), none⟩] none)
          (.ret))
         (.skip)))
       (.seq (.reg [1, 2] [(26, 1)] [
          ⟨some 23, .fad (.t 2) 9, none⟩,
          ⟨some 24, .ld false 1 (.t 23), none⟩,
          ⟨some 25, .mv (.t 1), none⟩,
          ⟨some 26, .call 175 [] [(.t 24), (.t 25)], none⟩,
          ⟨some 1, .mv (.t 26), none⟩] none)
        (.seq (.seq (.reg [1, 2, 28] [] [
            ⟨some 27, .mv (.t 1), none⟩,
            ⟨some 28, .bin .lss (.t 27) (.c (.v false (.int .i64 0))), none⟩] none)
          (.cond (.t 28) (.seq (.reg [4] [] [
              ⟨some 4, .mv (.c (.v false (.int .i64 (-1)))), none⟩] none)
            (.ret))
           (.skip)))
         (.seq (.reg [1, 2] [(32, 1)] [
            ⟨some 29, .fad (.t 2) 10, none⟩,
            ⟨some 30, .ld false 1 (.t 29), none⟩,
            ⟨some 31, .mv (.t 1), none⟩,
            ⟨some 32, .call 172 [] [(.t 30), (.t 31)], none⟩,
            ⟨some 1, .mv (.t 32), none⟩] none)
          (.seq (.seq (.reg [1, 2, 34] [] [
              ⟨some 33, .mv (.t 1), none⟩,
              ⟨some 34, .bin .lss (.t 33) (.c (.v false (.int .i64 0))), none⟩] none)
            (.cond (.t 34) (.seq (.reg [4] [] [
                ⟨some 4, .mv (.c (.v false (.int .i64 (-1)))), none⟩] none)
              (.ret))
             (.skip)))
           (.seq (.reg [1, 2] [(38, 1)] [
              ⟨some 35, .fad (.t 2) 11, none⟩,
              ⟨some 36, .ld false 1 (.t 35), none⟩,
              ⟨some 37, .mv (.t 1), none⟩,
              ⟨some 38, .call 175 [] [(.t 36), (.t 37)], none⟩,
              ⟨some 1, .mv (.t 38), none⟩] none)
            (.seq (.seq (.reg [1, 2, 40] [] [
                ⟨some 39, .mv (.t 1), none⟩,
                ⟨some 40, .bin .lss (.t 39) (.c (.v false (.int .i64 0))), none⟩] none)
              (.cond (.t 40) (.seq (.reg [4] [] [
                  ⟨some 4, .mv (.c (.v false (.int .i64 (-1)))), none⟩] none)
                (.ret))
               (.skip)))
             (.seq (.reg [1, 2] [(44, 1)] [
                ⟨some 41, .fad (.t 2) 12, none⟩,
                ⟨some 42, .ld false 1 (.t 41), none⟩,
                ⟨some 43, .mv (.t 1), none⟩,
                ⟨some 44, .call 180 [] [(.t 42), (.t 43)], none⟩,
                ⟨some 1, .mv (.t 44), none⟩] none)
              (.seq (.seq (.reg [1, 2, 46] [] [
                  ⟨some 45, .mv (.t 1), none⟩,
                  ⟨some 46, .bin .lss (.t 45) (.c (.v false (.int .i64 0))), none⟩] none)
                (.cond (.t 46) (.seq (.reg [4] [] [
                    ⟨some 4, .mv (.c (.v false (.int .i64 (-1)))), none⟩] none)
                  (.ret))
                 (.skip)))
               (.seq (.reg [1] [(50, 1)] [
                  ⟨some 47, .fad (.t 2) 13, none⟩,
                  ⟨some 48, .ld false 1 (.t 47), none⟩,
                  ⟨some 49, .mv (.t 1), none⟩,
                  ⟨some 50, .call 173 [] [(.t 48), (.t 49)], none⟩,
                  ⟨some 1, .mv (.t 50), none⟩] none)
                (.seq (.seq (.reg [1, 52] [] [
                    ⟨some 51, .mv (.t 1), none⟩,
                    ⟨some 52, .bin .lss (.t 51) (.c (.v false (.int .i64 0))), none⟩] none)
                  (.cond (.t 52) (.seq (.reg [4] [] [
                      ⟨some 4, .mv (.c (.v false (.int .i64 (-1)))), none⟩] none)
                    (.ret))
                   (.skip)))
                 (.seq (.reg [1, 4] [] [
                    ⟨some 53, .mv (.t 1), none⟩,
                    ⟨some 4, .mv (.t 53), none⟩] none)
                  (.ret))))))))))))))))))

def pf182 : PF := ⟨[.s 4], [], pb182⟩

-- loop.example/g00496/laws.markBufS
def pl183_0 : PC :=
.seq (.seq (.reg [0, 1, 5, 9] [] [
         ⟨some 6, .mv (.t 5), none⟩,
         ⟨some 7, .mv (.t 0), none⟩,
         ⟨some 8, .len (.t 7), none⟩,
         ⟨some 9, .bin .lss (.t 6) (.t 8), none⟩] none)
       (.cond (.t 9) (.skip)
        (.exit 0)))
      (.seq (.blk 1 (.seq (.reg [0, 1, 5] [] [
           ⟨some 12, .mv (.t 0), none⟩,
           ⟨some 13, .mv (.t 5), none⟩,
           ⟨some 14, .mv (.t 1), none⟩,
           ⟨some 15, .iad 5 (.t 12) (.t 13), none⟩,
           ⟨some 16, .fad (.t 15) 0, none⟩,
           ⟨none, .st 1 (.t 16) (.t 14), none⟩] none)
         (.seq (.reg [0, 1, 5] [] [
            ⟨some 17, .mv (.t 1), none⟩,
            ⟨some 18, .bin .add (.t 17) (.c (.v false (.int .i64 1))), none⟩,
            ⟨some 1, .mv (.t 18), none⟩] none)
          (.seq (.reg [0, 1, 5] [] [
             ⟨some 19, .mv (.t 0), none⟩,
             ⟨some 20, .mv (.t 5), none⟩,
             ⟨some 21, .mv (.t 1), none⟩,
             ⟨some 22, .iad 5 (.t 19) (.t 20), none⟩,
             ⟨some 23, .fad (.t 22) 1, none⟩,
             ⟨none, .st 1 (.t 23) (.t 21), none⟩] none)
           (.seq (.reg [0, 1, 5] [] [
              ⟨some 24, .mv (.t 1), none⟩,
              ⟨some 25, .bin .add (.t 24) (.c (.v false (.int .i64 1))), none⟩,
              ⟨some 1, .mv (.t 25), none⟩] none)
            (.seq (.reg [0, 1, 5] [] [
               ⟨some 26, .mv (.t 0), none⟩,
               ⟨some 27, .mv (.t 5), none⟩,
               ⟨some 28, .mv (.t 1), none⟩,
               ⟨some 29, .iad 5 (.t 26) (.t 27), none⟩,
               ⟨some 30, .fad (.t 29) 2, none⟩,
               ⟨some 31, .fad (.t 30) 0, none⟩,
               ⟨none, .st 1 (.t 31) (.t 28), none⟩] none)
             (.seq (.reg [0, 1, 5] [] [
                ⟨some 32, .mv (.t 1), none⟩,
                ⟨some 33, .bin .add (.t 32) (.c (.v false (.int .i64 1))), none⟩,
                ⟨some 1, .mv (.t 33), none⟩] none)
              (.seq (.reg [0, 1, 5] [(41, 1)] [
                 ⟨some 34, .mv (.t 0), none⟩,
                 ⟨some 35, .mv (.t 5), none⟩,
                 ⟨some 36, .iad 5 (.t 34) (.t 35), none⟩,
                 ⟨some 37, .fad (.t 36) 2, none⟩,
                 ⟨some 38, .fad (.t 37) 1, none⟩,
                 ⟨some 39, .ld false 1 (.t 38), none⟩,
                 ⟨some 40, .mv (.t 1), none⟩,
                 ⟨some 41, .call 194 [0] [(.t 39), (.t 40)], none⟩,
                 ⟨some 1, .mv (.t 41), none⟩] none)
               (.reg [0, 1, 5] [(48, 1)] [
                 ⟨some 42, .mv (.t 0), none⟩,
                 ⟨some 43, .mv (.t 5), none⟩,
                 ⟨some 44, .iad 5 (.t 42) (.t 43), none⟩,
                 ⟨some 45, .fad (.t 44) 4, none⟩,
                 ⟨some 46, .ld false 1 (.t 45), none⟩,
                 ⟨some 47, .mv (.t 1), none⟩,
                 ⟨some 48, .call 184 [0] [(.t 46), (.t 47)], none⟩,
                 ⟨some 1, .mv (.t 48), none⟩] none)))))))))
       (.reg [0, 1, 5] [] [
         ⟨some 10, .mv (.t 5), none⟩,
         ⟨some 11, .bin .add (.t 10) (.c (.v false (.int .i64 1))), none⟩,
         ⟨some 5, .mv (.t 11), none⟩] none))

def pb183 : PC :=
.seq (.reg [0, 1] [] [
   ⟨some 4, .mv (.c (.v false (.int .i64 0))), none⟩] none)
 (.seq (.seq (.reg [0, 1, 5] [] [
     ⟨some 5, .mv (.c (.v false (.int .i64 0))), none⟩] none)
   (.blk 0 (.loop pl183_0)))
  (.seq (.reg [0, 1, 4] [] [
     ⟨some 49, .mv (.t 1), none⟩,
     ⟨some 4, .mv (.t 49), none⟩] none)
   (.ret)))

def pf183 : PF := ⟨[.s 4], [0], pb183⟩

-- loop.example/g00496/laws.markByteS
def pl184_0 : PC :=
.seq (.seq (.reg [0, 1, 5, 9] [] [
         ⟨some 6, .mv (.t 5), none⟩,
         ⟨some 7, .mv (.t 0), none⟩,
         ⟨some 8, .len (.t 7), none⟩,
         ⟨some 9, .bin .lss (.t 6) (.t 8), none⟩] none)
       (.cond (.t 9) (.skip)
        (.exit 0)))
      (.seq (.blk 1 (.seq (.reg [0, 1, 5] [] [
           ⟨some 12, .mv (.t 0), none⟩,
           ⟨some 13, .mv (.t 5), none⟩,
           ⟨some 14, .mv (.t 1), none⟩,
           ⟨some 15, .cvi .u8 (.t 14), none⟩,
           ⟨some 16, .iad 1 (.t 12) (.t 13), none⟩,
           ⟨none, .st 1 (.t 16) (.t 15), none⟩] none)
         (.reg [0, 1, 5] [] [
           ⟨some 17, .mv (.t 1), none⟩,
           ⟨some 18, .bin .add (.t 17) (.c (.v false (.int .i64 1))), none⟩,
           ⟨some 1, .mv (.t 18), none⟩] none)))
       (.reg [0, 1, 5] [] [
         ⟨some 10, .mv (.t 5), none⟩,
         ⟨some 11, .bin .add (.t 10) (.c (.v false (.int .i64 1))), none⟩,
         ⟨some 5, .mv (.t 11), none⟩] none))

def pb184 : PC :=
.seq (.reg [0, 1] [] [
   ⟨some 4, .mv (.c (.v false (.int .i64 0))), none⟩] none)
 (.seq (.seq (.reg [0, 1, 5] [] [
     ⟨some 5, .mv (.c (.v false (.int .i64 0))), none⟩] none)
   (.blk 0 (.loop pl184_0)))
  (.seq (.reg [0, 4] [] [
     ⟨some 19, .mv (.t 1), none⟩,
     ⟨some 4, .mv (.t 19), none⟩] none)
   (.ret)))

def pf184 : PF := ⟨[.s 4], [0], pb184⟩

-- loop.example/g00496/laws.markConf
def pb186 : PC :=
.seq (.reg [0, 1, 2] [] [
   ⟨some 2, .box 3 (.t 0), none⟩,
   ⟨some 4, .mv (.c (.v false (.int .i64 0))), none⟩] none)
 (.seq (.reg [0, 1] [(8, 1)] [
    ⟨some 5, .fad (.t 2) 0, none⟩,
    ⟨some 6, .ld false 1 (.t 5), none⟩,
    ⟨some 7, .mv (.t 1), none⟩,
    ⟨some 8, .call 190 [0] [(.t 6), (.t 7)], none⟩,
    ⟨some 1, .mv (.t 8), none⟩] none)
  (.seq (.reg [0, 1, 4] [] [
     ⟨some 9, .mv (.t 1), none⟩,
     ⟨some 4, .mv (.t 9), none⟩] none)
   (.ret)))

def pf186 : PF := ⟨[.s 4], [0], pb186⟩

-- loop.example/g00496/laws.markDeadS
def pl187_0 : PC :=
.seq (.seq (.reg [0, 1, 5, 9] [] [
         ⟨some 6, .mv (.t 5), none⟩,
         ⟨some 7, .mv (.t 0), none⟩,
         ⟨some 8, .len (.t 7), none⟩,
         ⟨some 9, .bin .lss (.t 6) (.t 8), none⟩] none)
       (.cond (.t 9) (.skip)
        (.exit 0)))
      (.seq (.blk 1 (.seq (.reg [0, 1, 5] [] [
           ⟨some 12, .mv (.t 0), none⟩,
           ⟨some 13, .mv (.t 5), none⟩,
           ⟨some 14, .mv (.t 1), none⟩,
           ⟨some 15, .iad 3 (.t 12) (.t 13), none⟩,
           ⟨some 16, .fad (.t 15) 0, none⟩,
           ⟨none, .st 1 (.t 16) (.t 14), none⟩] none)
         (.seq (.reg [0, 1, 5] [] [
            ⟨some 17, .mv (.t 1), none⟩,
            ⟨some 18, .bin .add (.t 17) (.c (.v false (.int .i64 1))), none⟩,
            ⟨some 1, .mv (.t 18), none⟩] none)
          (.seq (.reg [0, 1, 5] [] [
             ⟨some 19, .mv (.t 0), none⟩,
             ⟨some 20, .mv (.t 5), none⟩,
             ⟨some 21, .mv (.t 1), none⟩,
             ⟨some 22, .iad 3 (.t 19) (.t 20), none⟩,
             ⟨some 23, .fad (.t 22) 1, none⟩,
             ⟨none, .st 1 (.t 23) (.t 21), none⟩] none)
           (.seq (.reg [0, 1, 5] [] [
              ⟨some 24, .mv (.t 1), none⟩,
              ⟨some 25, .bin .add (.t 24) (.c (.v false (.int .i64 1))), none⟩,
              ⟨some 1, .mv (.t 25), none⟩] none)
            (.seq (.reg [0, 1, 5] [] [
               ⟨some 26, .mv (.t 0), none⟩,
               ⟨some 27, .mv (.t 5), none⟩,
               ⟨some 28, .mv (.t 1), none⟩,
               ⟨some 29, .iad 3 (.t 26) (.t 27), none⟩,
               ⟨some 30, .fad (.t 29) 2, none⟩,
               ⟨none, .st 1 (.t 30) (.t 28), none⟩] none)
             (.reg [0, 1, 5] [] [
               ⟨some 31, .mv (.t 1), none⟩,
               ⟨some 32, .bin .add (.t 31) (.c (.v false (.int .i64 1))), none⟩,
               ⟨some 1, .mv (.t 32), none⟩] none)))))))
       (.reg [0, 1, 5] [] [
         ⟨some 10, .mv (.t 5), none⟩,
         ⟨some 11, .bin .add (.t 10) (.c (.v false (.int .i64 1))), none⟩,
         ⟨some 5, .mv (.t 11), none⟩] none))

def pb187 : PC :=
.seq (.reg [0, 1] [] [
   ⟨some 4, .mv (.c (.v false (.int .i64 0))), none⟩] none)
 (.seq (.seq (.reg [0, 1, 5] [] [
     ⟨some 5, .mv (.c (.v false (.int .i64 0))), none⟩] none)
   (.blk 0 (.loop pl187_0)))
  (.seq (.reg [0, 4] [] [
     ⟨some 33, .mv (.t 1), none⟩,
     ⟨some 4, .mv (.t 33), none⟩] none)
   (.ret)))

def pf187 : PF := ⟨[.s 4], [0], pb187⟩

-- loop.example/g00496/laws.markDeedS
def pl188_0 : PC :=
.seq (.seq (.reg [0, 1, 5, 9] [] [
         ⟨some 6, .mv (.t 5), none⟩,
         ⟨some 7, .mv (.t 0), none⟩,
         ⟨some 8, .len (.t 7), none⟩,
         ⟨some 9, .bin .lss (.t 6) (.t 8), none⟩] none)
       (.cond (.t 9) (.skip)
        (.exit 0)))
      (.seq (.blk 1 (.seq (.reg [0, 1, 5] [] [
           ⟨some 12, .mv (.t 0), none⟩,
           ⟨some 13, .mv (.t 5), none⟩,
           ⟨some 14, .mv (.t 1), none⟩,
           ⟨some 15, .iad 25 (.t 12) (.t 13), none⟩,
           ⟨some 16, .fad (.t 15) 0, none⟩,
           ⟨none, .st 1 (.t 16) (.t 14), none⟩] none)
         (.seq (.reg [0, 1, 5] [] [
            ⟨some 17, .mv (.t 1), none⟩,
            ⟨some 18, .bin .add (.t 17) (.c (.v false (.int .i64 1))), none⟩,
            ⟨some 1, .mv (.t 18), none⟩] none)
          (.seq (.reg [0, 1, 5] [] [
             ⟨some 19, .mv (.t 0), none⟩,
             ⟨some 20, .mv (.t 5), none⟩,
             ⟨some 21, .mv (.t 1), none⟩,
             ⟨some 22, .iad 25 (.t 19) (.t 20), none⟩,
             ⟨some 23, .fad (.t 22) 1, none⟩,
             ⟨none, .st 1 (.t 23) (.t 21), none⟩] none)
           (.seq (.reg [0, 1, 5] [] [
              ⟨some 24, .mv (.t 1), none⟩,
              ⟨some 25, .bin .add (.t 24) (.c (.v false (.int .i64 1))), none⟩,
              ⟨some 1, .mv (.t 25), none⟩] none)
            (.seq (.reg [0, 1, 5] [(32, 1)] [
               ⟨some 26, .mv (.t 0), none⟩,
               ⟨some 27, .mv (.t 5), none⟩,
               ⟨some 28, .iad 25 (.t 26) (.t 27), none⟩,
               ⟨some 29, .fad (.t 28) 2, none⟩,
               ⟨some 30, .ld false 1 (.t 29), none⟩,
               ⟨some 31, .mv (.t 1), none⟩,
               ⟨some 32, .call 197 [0] [(.t 30), (.t 31)], none⟩,
               ⟨some 1, .mv (.t 32), none⟩] none)
             (.seq (.reg [0, 1, 5] [] [
                ⟨some 33, .mv (.t 0), none⟩,
                ⟨some 34, .mv (.t 5), none⟩,
                ⟨some 35, .mv (.t 1), none⟩,
                ⟨some 36, .iad 25 (.t 33) (.t 34), none⟩,
                ⟨some 37, .fad (.t 36) 3, none⟩,
                ⟨none, .st 1 (.t 37) (.t 35), none⟩] none)
              (.seq (.reg [0, 1, 5] [] [
                 ⟨some 38, .mv (.t 1), none⟩,
                 ⟨some 39, .bin .add (.t 38) (.c (.v false (.int .i64 1))), none⟩,
                 ⟨some 1, .mv (.t 39), none⟩] none)
               (.seq (.reg [0, 1, 5] [] [
                  ⟨some 40, .mv (.t 0), none⟩,
                  ⟨some 41, .mv (.t 5), none⟩,
                  ⟨some 42, .mv (.t 1), none⟩,
                  ⟨some 43, .iad 25 (.t 40) (.t 41), none⟩,
                  ⟨some 44, .fad (.t 43) 4, none⟩,
                  ⟨some 45, .fad (.t 44) 0, none⟩,
                  ⟨none, .st 1 (.t 45) (.t 42), none⟩] none)
                (.seq (.reg [0, 1, 5] [] [
                   ⟨some 46, .mv (.t 1), none⟩,
                   ⟨some 47, .bin .add (.t 46) (.c (.v false (.int .i64 1))), none⟩,
                   ⟨some 1, .mv (.t 47), none⟩] none)
                 (.seq (.reg [0, 1, 5] [] [
                    ⟨some 48, .mv (.t 0), none⟩,
                    ⟨some 49, .mv (.t 5), none⟩,
                    ⟨some 50, .mv (.t 1), none⟩,
                    ⟨some 51, .iad 25 (.t 48) (.t 49), none⟩,
                    ⟨some 52, .fad (.t 51) 4, none⟩,
                    ⟨some 53, .fad (.t 52) 1, none⟩,
                    ⟨some 54, .fad (.t 53) 0, none⟩,
                    ⟨none, .st 1 (.t 54) (.t 50), none⟩] none)
                  (.seq (.reg [0, 1, 5] [] [
                     ⟨some 55, .mv (.t 1), none⟩,
                     ⟨some 56, .bin .add (.t 55) (.c (.v false (.int .i64 1))), none⟩,
                     ⟨some 1, .mv (.t 56), none⟩] none)
                   (.seq (.reg [0, 1, 5] [] [
                      ⟨some 57, .mv (.t 0), none⟩,
                      ⟨some 58, .mv (.t 5), none⟩,
                      ⟨some 59, .mv (.t 1), none⟩,
                      ⟨some 60, .iad 25 (.t 57) (.t 58), none⟩,
                      ⟨some 61, .fad (.t 60) 4, none⟩,
                      ⟨some 62, .fad (.t 61) 1, none⟩,
                      ⟨some 63, .fad (.t 62) 1, none⟩,
                      ⟨none, .st 1 (.t 63) (.t 59), none⟩] none)
                    (.seq (.reg [0, 1, 5] [] [
                       ⟨some 64, .mv (.t 1), none⟩,
                       ⟨some 65, .bin .add (.t 64) (.c (.v false (.int .i64 1))), none⟩,
                       ⟨some 1, .mv (.t 65), none⟩] none)
                     (.seq (.reg [0, 1, 5] [] [
                        ⟨some 66, .mv (.t 0), none⟩,
                        ⟨some 67, .mv (.t 5), none⟩,
                        ⟨some 68, .mv (.t 1), none⟩,
                        ⟨some 69, .iad 25 (.t 66) (.t 67), none⟩,
                        ⟨some 70, .fad (.t 69) 4, none⟩,
                        ⟨some 71, .fad (.t 70) 1, none⟩,
                        ⟨some 72, .fad (.t 71) 2, none⟩,
                        ⟨none, .st 1 (.t 72) (.t 68), none⟩] none)
                      (.seq (.reg [0, 1, 5] [] [
                         ⟨some 73, .mv (.t 1), none⟩,
                         ⟨some 74, .bin .add (.t 73) (.c (.v false (.int .i64 1))), none⟩,
                         ⟨some 1, .mv (.t 74), none⟩] none)
                       (.seq (.reg [0, 1, 5] [] [
                          ⟨some 75, .mv (.t 0), none⟩,
                          ⟨some 76, .mv (.t 5), none⟩,
                          ⟨some 77, .mv (.t 1), none⟩,
                          ⟨some 78, .iad 25 (.t 75) (.t 76), none⟩,
                          ⟨some 79, .fad (.t 78) 4, none⟩,
                          ⟨some 80, .fad (.t 79) 1, none⟩,
                          ⟨some 81, .fad (.t 80) 3, none⟩,
                          ⟨some 82, .fad (.t 81) 0, none⟩,
                          ⟨none, .st 1 (.t 82) (.t 77), none⟩] none)
                        (.seq (.reg [0, 1, 5] [] [
                           ⟨some 83, .mv (.t 1), none⟩,
                           ⟨some 84, .bin .add (.t 83) (.c (.v false (.int .i64 1))), none⟩,
                           ⟨some 1, .mv (.t 84), none⟩] none)
                         (.seq (.reg [0, 1, 5] [] [
                            ⟨some 85, .mv (.t 0), none⟩,
                            ⟨some 86, .mv (.t 5), none⟩,
                            ⟨some 87, .mv (.t 1), none⟩,
                            ⟨some 88, .iad 25 (.t 85) (.t 86), none⟩,
                            ⟨some 89, .fad (.t 88) 4, none⟩,
                            ⟨some 90, .fad (.t 89) 1, none⟩,
                            ⟨some 91, .fad (.t 90) 3, none⟩,
                            ⟨some 92, .fad (.t 91) 1, none⟩,
                            ⟨none, .st 1 (.t 92) (.t 87), none⟩] none)
                          (.seq (.reg [0, 1, 5] [] [
                             ⟨some 93, .mv (.t 1), none⟩,
                             ⟨some 94, .bin .add (.t 93) (.c (.v false (.int .i64 1))), none⟩,
                             ⟨some 1, .mv (.t 94), none⟩] none)
                           (.seq (.reg [0, 1, 5] [] [
                              ⟨some 95, .mv (.t 0), none⟩,
                              ⟨some 96, .mv (.t 5), none⟩,
                              ⟨some 97, .mv (.t 1), none⟩,
                              ⟨some 98, .call 196 [] [(.t 97)], none⟩,
                              ⟨some 99, .iad 25 (.t 95) (.t 96), none⟩,
                              ⟨some 100, .fad (.t 99) 4, none⟩,
                              ⟨some 101, .fad (.t 100) 1, none⟩,
                              ⟨some 102, .fad (.t 101) 3, none⟩,
                              ⟨some 103, .fad (.t 102) 2, none⟩,
                              ⟨none, .st 1 (.t 103) (.t 98), none⟩] none)
                            (.seq (.reg [0, 1, 5] [] [
                               ⟨some 104, .mv (.t 1), none⟩,
                               ⟨some 105, .bin .add (.t 104) (.c (.v false (.int .i64 1))), none⟩,
                               ⟨some 1, .mv (.t 105), none⟩] none)
                             (.seq (.reg [0, 1, 5] [(114, 1)] [
                                ⟨some 106, .mv (.t 0), none⟩,
                                ⟨some 107, .mv (.t 5), none⟩,
                                ⟨some 108, .iad 25 (.t 106) (.t 107), none⟩,
                                ⟨some 109, .fad (.t 108) 4, none⟩,
                                ⟨some 110, .fad (.t 109) 1, none⟩,
                                ⟨some 111, .fad (.t 110) 6, none⟩,
                                ⟨some 112, .ld false 1 (.t 111), none⟩,
                                ⟨some 113, .mv (.t 1), none⟩,
                                ⟨some 114, .call 191 [0] [(.t 112), (.t 113)], none⟩,
                                ⟨some 1, .mv (.t 114), none⟩] none)
                              (.seq (.reg [0, 1, 5] [] [
                                 ⟨some 115, .mv (.t 0), none⟩,
                                 ⟨some 116, .mv (.t 5), none⟩,
                                 ⟨some 117, .mv (.t 1), none⟩,
                                 ⟨some 118, .iad 25 (.t 115) (.t 116), none⟩,
                                 ⟨some 119, .fad (.t 118) 4, none⟩,
                                 ⟨some 120, .fad (.t 119) 8, none⟩,
                                 ⟨none, .st 1 (.t 120) (.t 117), none⟩] none)
                               (.seq (.reg [0, 1, 5] [] [
                                  ⟨some 121, .mv (.t 1), none⟩,
                                  ⟨some 122, .bin .add (.t 121) (.c (.v false (.int .i64 1))), none⟩,
                                  ⟨some 1, .mv (.t 122), none⟩] none)
                                (.seq (.reg [0, 1, 5] [(130, 1)] [
                                   ⟨some 123, .mv (.t 0), none⟩,
                                   ⟨some 124, .mv (.t 5), none⟩,
                                   ⟨some 125, .iad 25 (.t 123) (.t 124), none⟩,
                                   ⟨some 126, .fad (.t 125) 4, none⟩,
                                   ⟨some 127, .fad (.t 126) 9, none⟩,
                                   ⟨some 128, .ld false 1 (.t 127), none⟩,
                                   ⟨some 129, .mv (.t 1), none⟩,
                                   ⟨some 130, .call 190 [0] [(.t 128), (.t 129)], none⟩,
                                   ⟨some 1, .mv (.t 130), none⟩] none)
                                 (.seq (.reg [0, 1, 5] [(138, 1)] [
                                    ⟨some 131, .mv (.t 0), none⟩,
                                    ⟨some 132, .mv (.t 5), none⟩,
                                    ⟨some 133, .iad 25 (.t 131) (.t 132), none⟩,
                                    ⟨some 134, .fad (.t 133) 14, none⟩,
                                    ⟨some 135, .fad (.t 134) 0, none⟩,
                                    ⟨some 136, .ld false 1 (.t 135), none⟩,
                                    ⟨some 137, .mv (.t 1), none⟩,
                                    ⟨some 138, .call 193 [0] [(.t 136), (.t 137)], none⟩,
                                    ⟨some 1, .mv (.t 138), none⟩] none)
                                  (.seq (.reg [0, 1, 5] [] [
                                     ⟨some 139, .mv (.t 0), none⟩,
                                     ⟨some 140, .mv (.t 5), none⟩,
                                     ⟨some 141, .mv (.t 1), none⟩,
                                     ⟨some 142, .iad 25 (.t 139) (.t 140), none⟩,
                                     ⟨some 143, .fad (.t 142) 14, none⟩,
                                     ⟨some 144, .fad (.t 143) 1, none⟩,
                                     ⟨none, .st 1 (.t 144) (.t 141), none⟩] none)
                                   (.seq (.reg [0, 1, 5] [] [
                                      ⟨some 145, .mv (.t 1), none⟩,
                                      ⟨some 146, .bin .add (.t 145) (.c (.v false (.int .i64 1))), none⟩,
                                      ⟨some 1, .mv (.t 146), none⟩] none)
                                    (.seq (.reg [0, 1, 5] [] [
                                       ⟨some 147, .mv (.t 0), none⟩,
                                       ⟨some 148, .mv (.t 5), none⟩,
                                       ⟨some 149, .mv (.t 1), none⟩,
                                       ⟨some 150, .bin .rem (.t 149) (.c (.v false (.int .i64 3))), none⟩,
                                       ⟨some 151, .bin .eql (.t 150) (.c (.v false (.int .i64 0))), none⟩,
                                       ⟨some 152, .iad 25 (.t 147) (.t 148), none⟩,
                                       ⟨some 153, .fad (.t 152) 14, none⟩,
                                       ⟨some 154, .fad (.t 153) 2, none⟩,
                                       ⟨none, .st 1 (.t 154) (.t 151), none⟩] none)
                                     (.seq (.reg [0, 1, 5] [] [
                                        ⟨some 155, .mv (.t 1), none⟩,
                                        ⟨some 156, .bin .add (.t 155) (.c (.v false (.int .i64 1))), none⟩,
                                        ⟨some 1, .mv (.t 156), none⟩] none)
                                      (.seq (.reg [0, 1, 5] [] [
                                         ⟨some 157, .mv (.t 0), none⟩,
                                         ⟨some 158, .mv (.t 5), none⟩,
                                         ⟨some 159, .mv (.t 1), none⟩,
                                         ⟨some 160, .iad 25 (.t 157) (.t 158), none⟩,
                                         ⟨some 161, .fad (.t 160) 14, none⟩,
                                         ⟨some 162, .fad (.t 161) 3, none⟩,
                                         ⟨some 163, .fad (.t 162) 0, none⟩,
                                         ⟨none, .st 1 (.t 163) (.t 159), none⟩] none)
                                       (.seq (.reg [0, 1, 5] [] [
                                          ⟨some 164, .mv (.t 1), none⟩,
                                          ⟨some 165, .bin .add (.t 164) (.c (.v false (.int .i64 1))), none⟩,
                                          ⟨some 1, .mv (.t 165), none⟩] none)
                                        (.seq (.reg [0, 1, 5] [] [
                                           ⟨some 166, .mv (.t 0), none⟩,
                                           ⟨some 167, .mv (.t 5), none⟩,
                                           ⟨some 168, .mv (.t 1), none⟩,
                                           ⟨some 169, .iad 25 (.t 166) (.t 167), none⟩,
                                           ⟨some 170, .fad (.t 169) 14, none⟩,
                                           ⟨some 171, .fad (.t 170) 3, none⟩,
                                           ⟨some 172, .fad (.t 171) 1, none⟩,
                                           ⟨none, .st 1 (.t 172) (.t 168), none⟩] none)
                                         (.seq (.reg [0, 1, 5] [] [
                                            ⟨some 173, .mv (.t 1), none⟩,
                                            ⟨some 174, .bin .add (.t 173) (.c (.v false (.int .i64 1))), none⟩,
                                            ⟨some 1, .mv (.t 174), none⟩] none)
                                          (.seq (.reg [0, 1, 5] [] [
                                             ⟨some 175, .mv (.t 0), none⟩,
                                             ⟨some 176, .mv (.t 5), none⟩,
                                             ⟨some 177, .mv (.t 1), none⟩,
                                             ⟨some 178, .call 196 [] [(.t 177)], none⟩,
                                             ⟨some 179, .iad 25 (.t 175) (.t 176), none⟩,
                                             ⟨some 180, .fad (.t 179) 14, none⟩,
                                             ⟨some 181, .fad (.t 180) 3, none⟩,
                                             ⟨some 182, .fad (.t 181) 2, none⟩,
                                             ⟨none, .st 1 (.t 182) (.t 178), none⟩] none)
                                           (.seq (.reg [0, 1, 5] [] [
                                              ⟨some 183, .mv (.t 1), none⟩,
                                              ⟨some 184, .bin .add (.t 183) (.c (.v false (.int .i64 1))), none⟩,
                                              ⟨some 1, .mv (.t 184), none⟩] none)
                                            (.seq (.reg [0, 1, 5] [] [
                                               ⟨some 185, .mv (.t 0), none⟩,
                                               ⟨some 186, .mv (.t 5), none⟩,
                                               ⟨some 187, .mv (.t 1), none⟩,
                                               ⟨some 188, .iad 25 (.t 185) (.t 186), none⟩,
                                               ⟨some 189, .fad (.t 188) 20, none⟩,
                                               ⟨none, .st 1 (.t 189) (.t 187), none⟩] none)
                                             (.seq (.reg [0, 1, 5] [] [
                                                ⟨some 190, .mv (.t 1), none⟩,
                                                ⟨some 191, .bin .add (.t 190) (.c (.v false (.int .i64 1))), none⟩,
                                                ⟨some 1, .mv (.t 191), none⟩] none)
                                              (.seq (.reg [0, 1, 5] [] [
                                                 ⟨some 192, .mv (.t 0), none⟩,
                                                 ⟨some 193, .mv (.t 5), none⟩,
                                                 ⟨some 194, .mv (.t 1), none⟩,
                                                 ⟨some 195, .iad 25 (.t 192) (.t 193), none⟩,
                                                 ⟨some 196, .fad (.t 195) 21, none⟩,
                                                 ⟨none, .st 1 (.t 196) (.t 194), none⟩] none)
                                               (.seq (.reg [0, 1, 5] [] [
                                                  ⟨some 197, .mv (.t 1), none⟩,
                                                  ⟨some 198, .bin .add (.t 197) (.c (.v false (.int .i64 1))), none⟩,
                                                  ⟨some 1, .mv (.t 198), none⟩] none)
                                                (.seq (.reg [0, 1, 5] [] [
                                                   ⟨some 199, .mv (.t 0), none⟩,
                                                   ⟨some 200, .mv (.t 5), none⟩,
                                                   ⟨some 201, .mv (.t 1), none⟩,
                                                   ⟨some 202, .iad 25 (.t 199) (.t 200), none⟩,
                                                   ⟨some 203, .fad (.t 202) 22, none⟩,
                                                   ⟨none, .st 1 (.t 203) (.t 201), none⟩] none)
                                                 (.seq (.reg [0, 1, 5] [] [
                                                    ⟨some 204, .mv (.t 1), none⟩,
                                                    ⟨some 205, .bin .add (.t 204) (.c (.v false (.int .i64 1))), none⟩,
                                                    ⟨some 1, .mv (.t 205), none⟩] none)
                                                  (.seq (.reg [0, 1, 5] [] [
                                                     ⟨some 206, .mv (.t 0), none⟩,
                                                     ⟨some 207, .mv (.t 5), none⟩,
                                                     ⟨some 208, .mv (.t 1), none⟩,
                                                     ⟨some 209, .iad 25 (.t 206) (.t 207), none⟩,
                                                     ⟨some 210, .fad (.t 209) 23, none⟩,
                                                     ⟨none, .st 1 (.t 210) (.t 208), none⟩] none)
                                                   (.seq (.reg [0, 1, 5] [] [
                                                      ⟨some 211, .mv (.t 1), none⟩,
                                                      ⟨some 212, .bin .add (.t 211) (.c (.v false (.int .i64 1))), none⟩,
                                                      ⟨some 1, .mv (.t 212), none⟩] none)
                                                    (.seq (.reg [0, 1, 5] [] [
                                                       ⟨some 213, .mv (.t 0), none⟩,
                                                       ⟨some 214, .mv (.t 5), none⟩,
                                                       ⟨some 215, .mv (.t 1), none⟩,
                                                       ⟨some 216, .iad 25 (.t 213) (.t 214), none⟩,
                                                       ⟨some 217, .fad (.t 216) 24, none⟩,
                                                       ⟨none, .st 1 (.t 217) (.t 215), none⟩] none)
                                                     (.reg [0, 1, 5] [] [
                                                       ⟨some 218, .mv (.t 1), none⟩,
                                                       ⟨some 219, .bin .add (.t 218) (.c (.v false (.int .i64 1))), none⟩,
                                                       ⟨some 1, .mv (.t 219), none⟩] none)))))))))))))))))))))))))))))))))))))))))))))))
       (.reg [0, 1, 5] [] [
         ⟨some 10, .mv (.t 5), none⟩,
         ⟨some 11, .bin .add (.t 10) (.c (.v false (.int .i64 1))), none⟩,
         ⟨some 5, .mv (.t 11), none⟩] none))

def pb188 : PC :=
.seq (.reg [0, 1] [] [
   ⟨some 4, .mv (.c (.v false (.int .i64 0))), none⟩] none)
 (.seq (.seq (.reg [0, 1, 5] [] [
     ⟨some 5, .mv (.c (.v false (.int .i64 0))), none⟩] none)
   (.blk 0 (.loop pl188_0)))
  (.seq (.reg [0, 4] [] [
     ⟨some 220, .mv (.t 1), none⟩,
     ⟨some 4, .mv (.t 220), none⟩] none)
   (.ret)))

def pf188 : PF := ⟨[.s 4], [0], pb188⟩

-- loop.example/g00496/laws.markDir
def pb189 : PC :=
.seq (.reg [0, 1, 2] [] [
   ⟨some 2, .box 2 (.t 0), none⟩,
   ⟨some 4, .mv (.c (.v false (.int .i64 0))), none⟩] none)
 (.seq (.reg [0, 1] [(8, 1)] [
    ⟨some 5, .fad (.t 2) 1, none⟩,
    ⟨some 6, .ld false 1 (.t 5), none⟩,
    ⟨some 7, .mv (.t 1), none⟩,
    ⟨some 8, .call 192 [0] [(.t 6), (.t 7)], none⟩,
    ⟨some 1, .mv (.t 8), none⟩] none)
  (.seq (.reg [0, 1, 4] [] [
     ⟨some 9, .mv (.t 1), none⟩,
     ⟨some 4, .mv (.t 9), none⟩] none)
   (.ret)))

def pf189 : PF := ⟨[.s 4], [0], pb189⟩

-- loop.example/g00496/laws.markIntS
def pl190_0 : PC :=
.seq (.seq (.reg [0, 1, 5, 9] [] [
         ⟨some 6, .mv (.t 5), none⟩,
         ⟨some 7, .mv (.t 0), none⟩,
         ⟨some 8, .len (.t 7), none⟩,
         ⟨some 9, .bin .lss (.t 6) (.t 8), none⟩] none)
       (.cond (.t 9) (.skip)
        (.exit 0)))
      (.seq (.blk 1 (.seq (.reg [0, 1, 5] [] [
           ⟨some 12, .mv (.t 0), none⟩,
           ⟨some 13, .mv (.t 5), none⟩,
           ⟨some 14, .mv (.t 1), none⟩,
           ⟨some 15, .iad 1 (.t 12) (.t 13), none⟩,
           ⟨none, .st 1 (.t 15) (.t 14), none⟩] none)
         (.reg [0, 1, 5] [] [
           ⟨some 16, .mv (.t 1), none⟩,
           ⟨some 17, .bin .add (.t 16) (.c (.v false (.int .i64 1))), none⟩,
           ⟨some 1, .mv (.t 17), none⟩] none)))
       (.reg [0, 1, 5] [] [
         ⟨some 10, .mv (.t 5), none⟩,
         ⟨some 11, .bin .add (.t 10) (.c (.v false (.int .i64 1))), none⟩,
         ⟨some 5, .mv (.t 11), none⟩] none))

def pb190 : PC :=
.seq (.reg [0, 1] [] [
   ⟨some 4, .mv (.c (.v false (.int .i64 0))), none⟩] none)
 (.seq (.seq (.reg [0, 1, 5] [] [
     ⟨some 5, .mv (.c (.v false (.int .i64 0))), none⟩] none)
   (.blk 0 (.loop pl190_0)))
  (.seq (.reg [0, 4] [] [
     ⟨some 18, .mv (.t 1), none⟩,
     ⟨some 4, .mv (.t 18), none⟩] none)
   (.ret)))

def pf190 : PF := ⟨[.s 4], [0], pb190⟩

-- loop.example/g00496/laws.markPredS
def pl191_0 : PC :=
.seq (.seq (.reg [0, 1, 5, 9] [] [
         ⟨some 6, .mv (.t 5), none⟩,
         ⟨some 7, .mv (.t 0), none⟩,
         ⟨some 8, .len (.t 7), none⟩,
         ⟨some 9, .bin .lss (.t 6) (.t 8), none⟩] none)
       (.cond (.t 9) (.skip)
        (.exit 0)))
      (.seq (.blk 1 (.seq (.reg [0, 1, 5] [] [
           ⟨some 12, .mv (.t 0), none⟩,
           ⟨some 13, .mv (.t 5), none⟩,
           ⟨some 14, .mv (.t 1), none⟩,
           ⟨some 15, .iad 7 (.t 12) (.t 13), none⟩,
           ⟨some 16, .fad (.t 15) 0, none⟩,
           ⟨none, .st 1 (.t 16) (.t 14), none⟩] none)
         (.seq (.reg [0, 1, 5] [] [
            ⟨some 17, .mv (.t 1), none⟩,
            ⟨some 18, .bin .add (.t 17) (.c (.v false (.int .i64 1))), none⟩,
            ⟨some 1, .mv (.t 18), none⟩] none)
          (.seq (.reg [0, 1, 5] [] [
             ⟨some 19, .mv (.t 0), none⟩,
             ⟨some 20, .mv (.t 5), none⟩,
             ⟨some 21, .mv (.t 1), none⟩,
             ⟨some 22, .iad 7 (.t 19) (.t 20), none⟩,
             ⟨some 23, .fad (.t 22) 1, none⟩,
             ⟨none, .st 1 (.t 23) (.t 21), none⟩] none)
           (.seq (.reg [0, 1, 5] [] [
              ⟨some 24, .mv (.t 1), none⟩,
              ⟨some 25, .bin .add (.t 24) (.c (.v false (.int .i64 1))), none⟩,
              ⟨some 1, .mv (.t 25), none⟩] none)
            (.seq (.reg [0, 1, 5] [] [
               ⟨some 26, .mv (.t 0), none⟩,
               ⟨some 27, .mv (.t 5), none⟩,
               ⟨some 28, .mv (.t 1), none⟩,
               ⟨some 29, .iad 7 (.t 26) (.t 27), none⟩,
               ⟨some 30, .fad (.t 29) 2, none⟩,
               ⟨none, .st 1 (.t 30) (.t 28), none⟩] none)
             (.seq (.reg [0, 1, 5] [] [
                ⟨some 31, .mv (.t 1), none⟩,
                ⟨some 32, .bin .add (.t 31) (.c (.v false (.int .i64 1))), none⟩,
                ⟨some 1, .mv (.t 32), none⟩] none)
              (.seq (.reg [0, 1, 5] [] [
                 ⟨some 33, .mv (.t 0), none⟩,
                 ⟨some 34, .mv (.t 5), none⟩,
                 ⟨some 35, .mv (.t 1), none⟩,
                 ⟨some 36, .iad 7 (.t 33) (.t 34), none⟩,
                 ⟨some 37, .fad (.t 36) 3, none⟩,
                 ⟨some 38, .fad (.t 37) 0, none⟩,
                 ⟨none, .st 1 (.t 38) (.t 35), none⟩] none)
               (.seq (.reg [0, 1, 5] [] [
                  ⟨some 39, .mv (.t 1), none⟩,
                  ⟨some 40, .bin .add (.t 39) (.c (.v false (.int .i64 1))), none⟩,
                  ⟨some 1, .mv (.t 40), none⟩] none)
                (.seq (.reg [0, 1, 5] [] [
                   ⟨some 41, .mv (.t 0), none⟩,
                   ⟨some 42, .mv (.t 5), none⟩,
                   ⟨some 43, .mv (.t 1), none⟩,
                   ⟨some 44, .iad 7 (.t 41) (.t 42), none⟩,
                   ⟨some 45, .fad (.t 44) 3, none⟩,
                   ⟨some 46, .fad (.t 45) 1, none⟩,
                   ⟨none, .st 1 (.t 46) (.t 43), none⟩] none)
                 (.seq (.reg [0, 1, 5] [] [
                    ⟨some 47, .mv (.t 1), none⟩,
                    ⟨some 48, .bin .add (.t 47) (.c (.v false (.int .i64 1))), none⟩,
                    ⟨some 1, .mv (.t 48), none⟩] none)
                  (.seq (.reg [0, 1, 5] [] [
                     ⟨some 49, .mv (.t 0), none⟩,
                     ⟨some 50, .mv (.t 5), none⟩,
                     ⟨some 51, .mv (.t 1), none⟩,
                     ⟨some 52, .call 196 [] [(.t 51)], none⟩,
                     ⟨some 53, .iad 7 (.t 49) (.t 50), none⟩,
                     ⟨some 54, .fad (.t 53) 3, none⟩,
                     ⟨some 55, .fad (.t 54) 2, none⟩,
                     ⟨none, .st 1 (.t 55) (.t 52), none⟩] none)
                   (.seq (.reg [0, 1, 5] [] [
                      ⟨some 56, .mv (.t 1), none⟩,
                      ⟨some 57, .bin .add (.t 56) (.c (.v false (.int .i64 1))), none⟩,
                      ⟨some 1, .mv (.t 57), none⟩] none)
                    (.reg [0, 1, 5] [(64, 1)] [
                      ⟨some 58, .mv (.t 0), none⟩,
                      ⟨some 59, .mv (.t 5), none⟩,
                      ⟨some 60, .iad 7 (.t 58) (.t 59), none⟩,
                      ⟨some 61, .fad (.t 60) 6, none⟩,
                      ⟨some 62, .ld false 1 (.t 61), none⟩,
                      ⟨some 63, .mv (.t 1), none⟩,
                      ⟨some 64, .call 191 [0] [(.t 62), (.t 63)], none⟩,
                      ⟨some 1, .mv (.t 64), none⟩] none))))))))))))))
       (.reg [0, 1, 5] [] [
         ⟨some 10, .mv (.t 5), none⟩,
         ⟨some 11, .bin .add (.t 10) (.c (.v false (.int .i64 1))), none⟩,
         ⟨some 5, .mv (.t 11), none⟩] none))

def pb191 : PC :=
.seq (.reg [0, 1] [] [
   ⟨some 4, .mv (.c (.v false (.int .i64 0))), none⟩] none)
 (.seq (.seq (.reg [0, 1, 5] [] [
     ⟨some 5, .mv (.c (.v false (.int .i64 0))), none⟩] none)
   (.blk 0 (.loop pl191_0)))
  (.seq (.reg [0, 1, 4] [] [
     ⟨some 65, .mv (.t 1), none⟩,
     ⟨some 4, .mv (.t 65), none⟩] none)
   (.ret)))

def pf191 : PF := ⟨[.s 4], [0], pb191⟩

-- loop.example/g00496/laws.markRefS
def pl192_0 : PC :=
.seq (.seq (.reg [0, 1, 5, 9] [] [
         ⟨some 6, .mv (.t 5), none⟩,
         ⟨some 7, .mv (.t 0), none⟩,
         ⟨some 8, .len (.t 7), none⟩,
         ⟨some 9, .bin .lss (.t 6) (.t 8), none⟩] none)
       (.cond (.t 9) (.skip)
        (.exit 0)))
      (.seq (.blk 1 (.seq (.reg [0, 1, 5] [] [
           ⟨some 12, .mv (.t 0), none⟩,
           ⟨some 13, .mv (.t 5), none⟩,
           ⟨some 14, .mv (.t 1), none⟩,
           ⟨some 15, .iad 5 (.t 12) (.t 13), none⟩,
           ⟨some 16, .fad (.t 15) 0, none⟩,
           ⟨none, .st 1 (.t 16) (.t 14), none⟩] none)
         (.seq (.reg [0, 1, 5] [] [
            ⟨some 17, .mv (.t 1), none⟩,
            ⟨some 18, .bin .add (.t 17) (.c (.v false (.int .i64 1))), none⟩,
            ⟨some 1, .mv (.t 18), none⟩] none)
          (.seq (.reg [0, 1, 5] [] [
             ⟨some 19, .mv (.t 0), none⟩,
             ⟨some 20, .mv (.t 5), none⟩,
             ⟨some 21, .mv (.t 1), none⟩,
             ⟨some 22, .iad 5 (.t 19) (.t 20), none⟩,
             ⟨some 23, .fad (.t 22) 1, none⟩,
             ⟨none, .st 1 (.t 23) (.t 21), none⟩] none)
           (.seq (.reg [0, 1, 5] [] [
              ⟨some 24, .mv (.t 1), none⟩,
              ⟨some 25, .bin .add (.t 24) (.c (.v false (.int .i64 1))), none⟩,
              ⟨some 1, .mv (.t 25), none⟩] none)
            (.seq (.reg [0, 1, 5] [] [
               ⟨some 26, .mv (.t 0), none⟩,
               ⟨some 27, .mv (.t 5), none⟩,
               ⟨some 28, .mv (.t 1), none⟩,
               ⟨some 29, .iad 5 (.t 26) (.t 27), none⟩,
               ⟨some 30, .fad (.t 29) 2, none⟩,
               ⟨none, .st 1 (.t 30) (.t 28), none⟩] none)
             (.seq (.reg [0, 1, 5] [] [
                ⟨some 31, .mv (.t 1), none⟩,
                ⟨some 32, .bin .add (.t 31) (.c (.v false (.int .i64 1))), none⟩,
                ⟨some 1, .mv (.t 32), none⟩] none)
              (.seq (.reg [0, 1, 5] [] [
                 ⟨some 33, .mv (.t 0), none⟩,
                 ⟨some 34, .mv (.t 5), none⟩,
                 ⟨some 35, .mv (.t 1), none⟩,
                 ⟨some 36, .iad 5 (.t 33) (.t 34), none⟩,
                 ⟨some 37, .fad (.t 36) 3, none⟩,
                 ⟨none, .st 1 (.t 37) (.t 35), none⟩] none)
               (.seq (.reg [0, 1, 5] [] [
                  ⟨some 38, .mv (.t 1), none⟩,
                  ⟨some 39, .bin .add (.t 38) (.c (.v false (.int .i64 1))), none⟩,
                  ⟨some 1, .mv (.t 39), none⟩] none)
                (.seq (.reg [0, 1, 5] [] [
                   ⟨some 40, .mv (.t 0), none⟩,
                   ⟨some 41, .mv (.t 5), none⟩,
                   ⟨some 42, .mv (.t 1), none⟩,
                   ⟨some 43, .iad 5 (.t 40) (.t 41), none⟩,
                   ⟨some 44, .fad (.t 43) 4, none⟩,
                   ⟨none, .st 1 (.t 44) (.t 42), none⟩] none)
                 (.reg [0, 1, 5] [] [
                   ⟨some 45, .mv (.t 1), none⟩,
                   ⟨some 46, .bin .add (.t 45) (.c (.v false (.int .i64 1))), none⟩,
                   ⟨some 1, .mv (.t 46), none⟩] none)))))))))))
       (.reg [0, 1, 5] [] [
         ⟨some 10, .mv (.t 5), none⟩,
         ⟨some 11, .bin .add (.t 10) (.c (.v false (.int .i64 1))), none⟩,
         ⟨some 5, .mv (.t 11), none⟩] none))

def pb192 : PC :=
.seq (.reg [0, 1] [] [
   ⟨some 4, .mv (.c (.v false (.int .i64 0))), none⟩] none)
 (.seq (.seq (.reg [0, 1, 5] [] [
     ⟨some 5, .mv (.c (.v false (.int .i64 0))), none⟩] none)
   (.blk 0 (.loop pl192_0)))
  (.seq (.reg [0, 4] [] [
     ⟨some 47, .mv (.t 1), none⟩,
     ⟨some 4, .mv (.t 47), none⟩] none)
   (.ret)))

def pf192 : PF := ⟨[.s 4], [0], pb192⟩

-- loop.example/g00496/laws.markRowS
def pl193_0 : PC :=
.seq (.seq (.reg [0, 1, 5, 9] [] [
         ⟨some 6, .mv (.t 5), none⟩,
         ⟨some 7, .mv (.t 0), none⟩,
         ⟨some 8, .len (.t 7), none⟩,
         ⟨some 9, .bin .lss (.t 6) (.t 8), none⟩] none)
       (.cond (.t 9) (.skip)
        (.exit 0)))
      (.seq (.blk 1 (.seq (.reg [0, 1, 5] [] [
           ⟨some 12, .mv (.t 0), none⟩,
           ⟨some 13, .mv (.t 5), none⟩,
           ⟨some 14, .mv (.t 1), none⟩,
           ⟨some 15, .iad 2 (.t 12) (.t 13), none⟩,
           ⟨some 16, .fad (.t 15) 0, none⟩,
           ⟨none, .st 1 (.t 16) (.t 14), none⟩] none)
         (.seq (.reg [0, 1, 5] [] [
            ⟨some 17, .mv (.t 1), none⟩,
            ⟨some 18, .bin .add (.t 17) (.c (.v false (.int .i64 1))), none⟩,
            ⟨some 1, .mv (.t 18), none⟩] none)
          (.reg [0, 1, 5] [(25, 1)] [
            ⟨some 19, .mv (.t 0), none⟩,
            ⟨some 20, .mv (.t 5), none⟩,
            ⟨some 21, .iad 2 (.t 19) (.t 20), none⟩,
            ⟨some 22, .fad (.t 21) 1, none⟩,
            ⟨some 23, .ld false 1 (.t 22), none⟩,
            ⟨some 24, .mv (.t 1), none⟩,
            ⟨some 25, .call 197 [0] [(.t 23), (.t 24)], none⟩,
            ⟨some 1, .mv (.t 25), none⟩] none))))
       (.reg [0, 1, 5] [] [
         ⟨some 10, .mv (.t 5), none⟩,
         ⟨some 11, .bin .add (.t 10) (.c (.v false (.int .i64 1))), none⟩,
         ⟨some 5, .mv (.t 11), none⟩] none))

def pb193 : PC :=
.seq (.reg [0, 1] [] [
   ⟨some 4, .mv (.c (.v false (.int .i64 0))), none⟩] none)
 (.seq (.seq (.reg [0, 1, 5] [] [
     ⟨some 5, .mv (.c (.v false (.int .i64 0))), none⟩] none)
   (.blk 0 (.loop pl193_0)))
  (.seq (.reg [0, 1, 4] [] [
     ⟨some 26, .mv (.t 1), none⟩,
     ⟨some 4, .mv (.t 26), none⟩] none)
   (.ret)))

def pf193 : PF := ⟨[.s 4], [0], pb193⟩

-- loop.example/g00496/laws.markSlotS
def pl194_0 : PC :=
.seq (.seq (.reg [0, 1, 5, 9] [] [
         ⟨some 6, .mv (.t 5), none⟩,
         ⟨some 7, .mv (.t 0), none⟩,
         ⟨some 8, .len (.t 7), none⟩,
         ⟨some 9, .bin .lss (.t 6) (.t 8), none⟩] none)
       (.cond (.t 9) (.skip)
        (.exit 0)))
      (.seq (.blk 1 (.seq (.reg [0, 1, 5] [] [
           ⟨some 12, .mv (.t 0), none⟩,
           ⟨some 13, .mv (.t 5), none⟩,
           ⟨some 14, .mv (.t 1), none⟩,
           ⟨some 15, .iad 2 (.t 12) (.t 13), none⟩,
           ⟨some 16, .fad (.t 15) 0, none⟩,
           ⟨none, .st 1 (.t 16) (.t 14), none⟩] none)
         (.seq (.reg [0, 1, 5] [] [
            ⟨some 17, .mv (.t 1), none⟩,
            ⟨some 18, .bin .add (.t 17) (.c (.v false (.int .i64 1))), none⟩,
            ⟨some 1, .mv (.t 18), none⟩] none)
          (.reg [0, 1, 5] [(25, 1)] [
            ⟨some 19, .mv (.t 0), none⟩,
            ⟨some 20, .mv (.t 5), none⟩,
            ⟨some 21, .iad 2 (.t 19) (.t 20), none⟩,
            ⟨some 22, .fad (.t 21) 1, none⟩,
            ⟨some 23, .ld false 1 (.t 22), none⟩,
            ⟨some 24, .mv (.t 1), none⟩,
            ⟨some 25, .call 197 [0] [(.t 23), (.t 24)], none⟩,
            ⟨some 1, .mv (.t 25), none⟩] none))))
       (.reg [0, 1, 5] [] [
         ⟨some 10, .mv (.t 5), none⟩,
         ⟨some 11, .bin .add (.t 10) (.c (.v false (.int .i64 1))), none⟩,
         ⟨some 5, .mv (.t 11), none⟩] none))

def pb194 : PC :=
.seq (.reg [0, 1] [] [
   ⟨some 4, .mv (.c (.v false (.int .i64 0))), none⟩] none)
 (.seq (.seq (.reg [0, 1, 5] [] [
     ⟨some 5, .mv (.c (.v false (.int .i64 0))), none⟩] none)
   (.blk 0 (.loop pl194_0)))
  (.seq (.reg [0, 1, 4] [] [
     ⟨some 26, .mv (.t 1), none⟩,
     ⟨some 4, .mv (.t 26), none⟩] none)
   (.ret)))

def pf194 : PF := ⟨[.s 4], [0], pb194⟩

end Go.Proofs.Ytnadnanmgakkfaa.OM
