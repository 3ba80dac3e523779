/- The texts of the functions, as the own machine runs them. -/
import Derived.Test.YtnadnanmgakkfaaOMDef
set_option linter.all false
namespace Go.Proofs.Ytnadnanmgakkfaa.OM
set_option maxRecDepth 100000

-- loop.example/g00496/impl.EndsClaimed
def pl17_0 : PC :=
.seq (.reg [1, 3, 8, 9, 10, 11] [] [
         ⟨some 11, .bin .lss (.t 10) (.t 9), none⟩] none)
       (.seq (.cond (.t 11) (.skip)
         (.exit 0))
        (.seq (.blk 1 (.seq (.reg [1, 3, 4, 5, 8, 9, 10] [] [
             ⟨some 12, .mv (.t 10), none⟩,
             ⟨some 13, .iad 1 (.t 8) (.t 10), none⟩,
             ⟨some 14, .ld false 1 (.t 13), none⟩,
             ⟨some 4, .mv (.t 12), none⟩,
             ⟨some 5, .mv (.t 14), none⟩] none)
           (.seq (.reg [1, 3, 4, 8, 9, 10, 16] [] [
              ⟨some 15, .mv (.t 5), none⟩,
              ⟨some 16, .bin .eql (.t 15) (.c (.v false (.int .i64 (-1)))), none⟩] none)
            (.cond (.t 16) (.reg [1, 3, 8, 9, 10] [(20, 3)] [
               ⟨some 17, .mv (.t 3), none⟩,
               ⟨some 18, .mv (.t 4), none⟩,
               ⟨some 19, .bsl 1 [.int .i64 0] 1 [(0, (.t 18))], none⟩,
               ⟨some 20, .app 1 8 (.t 17) (.t 19), none⟩,
               ⟨some 3, .mv (.t 20), none⟩] none)
             (.skip)))))
         (.reg [1, 3, 8, 9, 10] [] [
           ⟨some 21, .bin .add (.t 10) (.c (.v false (.int .i64 1))), none⟩,
           ⟨some 10, .mv (.t 21), none⟩] none)))

def pb17 : PC :=
.seq (.reg [1] [] [
   ⟨some 1, .box 14 (.t 0), none⟩,
   ⟨some 2, .mv (.c (.nl 1)), none⟩] none)
 (.seq (.reg [1, 3] [(6, 3)] [
    ⟨some 6, .bsl 1 [] 0 [], none⟩,
    ⟨some 3, .mv (.t 6), none⟩] none)
  (.seq (.seq (.reg [1, 3, 8, 9, 10] [] [
      ⟨some 7, .fad (.t 1) 9, none⟩,
      ⟨some 8, .ld false 1 (.t 7), none⟩,
      ⟨some 9, .len (.t 8), none⟩,
      ⟨some 10, .mv (.c (.v false (.int .i64 0))), none⟩] none)
    (.blk 0 (.loop pl17_0)))
   (.seq (.reg [2, 3] [] [
      ⟨some 22, .mv (.t 3), none⟩,
      ⟨some 2, .mv (.t 22), none⟩] none)
    (.ret))))

def pf17 : PF := ⟨[.s 2], [], pb17⟩

-- loop.example/g00496/laws.FnExactEndsClaimed
def pb100 : PC :=
.seq (.reg [1] [] [
   ⟨some 1, .box 14 (.t 0), none⟩,
   ⟨some 2, .mv (.c (.v false (.bool false))), none⟩] none)
 (.seq (.reg [1, 3] [] [
    ⟨some 3, .mv (.c (.v false (.int .i64 1048576))), none⟩] none)
  (.seq (.reg [1, 3] [(13, 3)] [
     ⟨some 11, .ld true 14 (.t 1), none⟩,
     ⟨some 12, .mv (.t 3), none⟩,
     ⟨some 13, .call 233 [] [(.t 11), (.t 12)], none⟩,
     ⟨some 3, .mv (.t 13), none⟩] none)
   (.seq (.seq (.reg [1, 15] [] [
       ⟨some 14, .mv (.t 3), none⟩,
       ⟨some 15, .bin .lss (.t 14) (.c (.v false (.int .i64 0))), none⟩] none)
     (.cond (.t 15) (.seq (.reg [2] [] [
         ⟨some 2, .mv (.c (.v false (.bool true))), none⟩] none)
       (.ret))
      (.skip)))
    (.seq (.reg [1, 4] [(18, 4)] [
       ⟨some 16, .ld true 14 (.t 1), none⟩,
       ⟨some 17, .call 259 [] [(.t 16)], none⟩,
       ⟨some 18, .call 297 [] [(.t 17)], none⟩,
       ⟨some 4, .mv (.t 18), none⟩] none)
     (.seq (.reg [1, 4, 5] [] [
        ⟨some 19, .ld true 14 (.t 1), none⟩,
        ⟨some 20, .call 259 [] [(.t 19)], none⟩,
        ⟨some 5, .alloc [(.nl 1), (.v false (.int .i64 0)), (.v false (.int .i64 0)), (.v false (.int .i64 0)), (.v false (.int .i64 0)), (.v false (.int .i64 0)), (.v false (.int .i64 0)), (.nl 5), (.nl 5), (.nl 1), (.nl 3), (.nl 1), (.nl 25), (.nl 25)], none⟩,
        ⟨none, .st 14 (.t 5) (.t 20), none⟩] none)
      (.seq (.reg [1, 4, 5, 6] [(22, 6)] [
         ⟨some 21, .ld true 14 (.t 5), none⟩,
         ⟨some 22, .call 17 [] [(.t 21)], none⟩,
         ⟨some 6, .mv (.t 22), none⟩] none)
       (.seq (.seq (.reg [1, 4, 5, 6, 26] [] [
           ⟨some 23, .mv (.t 6), none⟩,
           ⟨some 24, .mv (.t 4), none⟩,
           ⟨some 25, .call 152 [] [(.t 23), (.t 24)], none⟩,
           ⟨some 26, .un .not (.t 25), none⟩] none)
         (.cond (.t 26) (.seq (.reg [2] [] [
             ⟨some 2, .mv (.c (.v false (.bool false))), none⟩] none)
           (.ret))
          (.skip)))
        (.seq (.seq (.reg [1, 4, 5, 6, 31] [] [
            ⟨some 27, .ld true 14 (.t 5), none⟩,
            ⟨some 28, .ld true 14 (.t 1), none⟩,
            ⟨some 29, .call 259 [] [(.t 28)], none⟩,
            ⟨some 30, .call 167 [] [(.t 27), (.t 29)], none⟩,
            ⟨some 31, .un .not (.t 30), none⟩] (some [(0, 2)]))
          (.cond (.t 31) (.seq (.reg [2] [] [
              ⟨some 2, .mv (.c (.v false (.bool false))), none⟩] none)
            (.ret))
           (.skip)))
         (.seq (.reg [1, 4, 5, 6, 7] [] [
            ⟨some 7, .mv (.c (.v false (.int .i64 1))), none⟩] none)
          (.seq (.reg [1, 4, 6, 7] [(34, 7)] [
             ⟨some 32, .ld true 14 (.t 5), none⟩,
             ⟨some 33, .mv (.t 7), none⟩,
             ⟨some 34, .call 198 [0] [(.t 32), (.t 33)], none⟩,
             ⟨some 7, .mv (.t 34), none⟩] none)
           (.seq (.seq (.reg [1, 4, 6, 42] [] [
               ⟨some 35, .mv (.t 7), none⟩,
               ⟨some 36, .bin .lss (.t 35) (.c (.v false (.int .i64 0))), none⟩,
               ⟨some 37, .mv (.t 36), none⟩,
               ⟨some 38, .mv (.t 6), some (37, false)⟩,
               ⟨some 39, .mv (.t 4), some (37, false)⟩,
               ⟨some 40, .call 152 [] [(.t 38), (.t 39)], some (37, false)⟩,
               ⟨some 41, .un .not (.t 40), some (37, false)⟩,
               ⟨some 42, .pick (.t 37) (.c (.v false (.bool true))) (.t 41), none⟩] none)
             (.cond (.t 42) (.seq (.reg [2] [] [
                 ⟨some 2, .mv (.c (.v false (.bool false))), none⟩] none)
               (.ret))
              (.skip)))
            (.seq (.reg [1, 4, 6, 8] [] [
               ⟨some 8, .mv (.c (.v false (.int .i64 1))), none⟩] none)
             (.seq (.reg [1, 4, 6, 8] [(45, 8)] [
                ⟨some 43, .mv (.t 6), none⟩,
                ⟨some 44, .mv (.t 8), none⟩,
                ⟨some 45, .call 190 [0] [(.t 43), (.t 44)], none⟩,
                ⟨some 8, .mv (.t 45), none⟩] none)
              (.seq (.reg [1, 4, 6, 8, 9] [] [
                 ⟨some 9, .mv (.c (.v false (.int .i64 1))), none⟩] none)
               (.seq (.reg [1, 4, 6, 8, 9] [(48, 9)] [
                  ⟨some 46, .mv (.t 6), none⟩,
                  ⟨some 47, .mv (.t 9), none⟩,
                  ⟨some 48, .call 175 [] [(.t 46), (.t 47)], none⟩,
                  ⟨some 9, .mv (.t 48), none⟩] none)
                (.seq (.seq (.reg [1, 4, 6, 8, 9, 50] [] [
                    ⟨some 49, .mv (.t 9), none⟩,
                    ⟨some 50, .bin .lss (.t 49) (.c (.v false (.int .i64 0))), none⟩] none)
                  (.cond (.t 50) (.seq (.reg [2] [] [
                      ⟨some 2, .mv (.c (.v false (.bool false))), none⟩] none)
                    (.ret))
                   (.skip)))
                 (.seq (.seq (.reg [1, 4, 6, 8, 53] [] [
                     ⟨some 51, .mv (.t 9), none⟩,
                     ⟨some 52, .mv (.t 8), none⟩,
                     ⟨some 53, .bin .neq (.t 51) (.t 52), none⟩] none)
                   (.cond (.t 53) (.seq (.reg [2] [] [
                       ⟨some 2, .mv (.c (.v false (.bool false))), none⟩] none)
                     (.ret))
                    (.skip)))
                  (.seq (.reg [4, 6, 8, 10] [(56, 10)] [
                     ⟨some 54, .ld true 14 (.t 1), none⟩,
                     ⟨some 55, .call 259 [] [(.t 54)], none⟩,
                     ⟨some 56, .call 17 [] [(.t 55)], none⟩,
                     ⟨some 10, .mv (.t 56), none⟩] none)
                   (.seq (.seq (.reg [6, 8, 60] [] [
                       ⟨some 57, .mv (.t 10), none⟩,
                       ⟨some 58, .mv (.t 4), none⟩,
                       ⟨some 59, .call 152 [] [(.t 57), (.t 58)], none⟩,
                       ⟨some 60, .un .not (.t 59), none⟩] none)
                     (.cond (.t 60) (.seq (.reg [2] [] [
                         ⟨some 2, .mv (.c (.v false (.bool false))), none⟩] none)
                       (.ret))
                      (.skip)))
                    (.seq (.reg [6, 8, 9] [] [
                       ⟨some 9, .mv (.c (.v false (.int .i64 1))), none⟩] none)
                     (.seq (.reg [8, 9] [(63, 9)] [
                        ⟨some 61, .mv (.t 6), none⟩,
                        ⟨some 62, .mv (.t 9), none⟩,
                        ⟨some 63, .call 175 [] [(.t 61), (.t 62)], none⟩,
                        ⟨some 9, .mv (.t 63), none⟩] none)
                      (.seq (.seq (.reg [8, 9, 65] [] [
                          ⟨some 64, .mv (.t 9), none⟩,
                          ⟨some 65, .bin .lss (.t 64) (.c (.v false (.int .i64 0))), none⟩] none)
                        (.cond (.t 65) (.seq (.reg [2] [] [
                            ⟨some 2, .mv (.c (.v false (.bool false))), none⟩] none)
                          (.ret))
                         (.skip)))
                       (.seq (.seq (.reg [68] [] [
                           ⟨some 66, .mv (.t 9), none⟩,
                           ⟨some 67, .mv (.t 8), none⟩,
                           ⟨some 68, .bin .neq (.t 66) (.t 67), none⟩] none)
                         (.cond (.t 68) (.seq (.reg [2] [] [
                             ⟨some 2, .mv (.c (.v false (.bool false))), none⟩] none)
                           (.ret))
                          (.skip)))
                        (.seq (.reg [2] [] [
                           ⟨some 2, .mv (.c (.v false (.bool true))), none⟩] none)
                         (.ret)))))))))))))))))))))))))

def pf100 : PF := ⟨[.s 2], [], pb100⟩

-- loop.example/g00496/laws.eqBuf
def pb142 : PC :=
.seq (.reg [2, 3] [] [
   ⟨some 2, .box 5 (.t 0), none⟩,
   ⟨some 3, .box 5 (.t 1), none⟩,
   ⟨some 4, .mv (.c (.v false (.bool false))), none⟩] none)
 (.seq (.seq (.reg [2, 3, 9] [] [
     ⟨some 5, .fad (.t 2) 0, none⟩,
     ⟨some 6, .ld false 1 (.t 5), none⟩,
     ⟨some 7, .fad (.t 3) 0, none⟩,
     ⟨some 8, .ld false 1 (.t 7), none⟩,
     ⟨some 9, .bin .neq (.t 6) (.t 8), none⟩] none)
   (.cond (.t 9) (.seq (.reg [4] [] [
       ⟨some 4, .mv (.c (.v false (.bool false))), none⟩] none)
     (.ret))
    (.skip)))
  (.seq (.seq (.reg [2, 3, 14] [] [
      ⟨some 10, .fad (.t 2) 1, none⟩,
      ⟨some 11, .ld false 1 (.t 10), none⟩,
      ⟨some 12, .fad (.t 3) 1, none⟩,
      ⟨some 13, .ld false 1 (.t 12), none⟩,
      ⟨some 14, .bin .neq (.t 11) (.t 13), none⟩] none)
    (.cond (.t 14) (.seq (.reg [4] [] [
        ⟨some 4, .mv (.c (.v false (.bool false))), none⟩] none)
      (.ret))
     (.skip)))
   (.seq (.seq (.reg [2, 3, 20] [] [
       ⟨some 15, .fad (.t 2) 2, none⟩,
       ⟨some 16, .ld true 2 (.t 15), none⟩,
       ⟨some 17, .fad (.t 3) 2, none⟩,
       ⟨some 18, .ld true 2 (.t 17), none⟩,
       ⟨some 19, .call 145 [] [(.t 16), (.t 18)], none⟩,
       ⟨some 20, .un .not (.t 19), none⟩] none)
     (.cond (.t 20) (.seq (.reg [4] [] [
         ⟨some 4, .mv (.c (.v false (.bool false))), none⟩] none)
       (.ret))
      (.skip)))
    (.seq (.seq (.reg [26] [] [
        ⟨some 21, .fad (.t 2) 4, none⟩,
        ⟨some 22, .ld false 1 (.t 21), none⟩,
        ⟨some 23, .fad (.t 3) 4, none⟩,
        ⟨some 24, .ld false 1 (.t 23), none⟩,
        ⟨some 25, .call 144 [] [(.t 22), (.t 24)], none⟩,
        ⟨some 26, .un .not (.t 25), none⟩] none)
      (.cond (.t 26) (.seq (.reg [4] [] [
          ⟨some 4, .mv (.c (.v false (.bool false))), none⟩] none)
        (.ret))
       (.skip)))
     (.seq (.reg [4] [] [
        ⟨some 4, .mv (.c (.v false (.bool true))), none⟩] none)
      (.ret))))))

def pf142 : PF := ⟨[.s 4], [], pb142⟩

-- loop.example/g00496/laws.eqBufS
def pl143_0 : PC :=
.seq (.seq (.reg [0, 1, 5, 14] [] [
          ⟨some 11, .mv (.t 5), none⟩,
          ⟨some 12, .mv (.t 0), none⟩,
          ⟨some 13, .len (.t 12), none⟩,
          ⟨some 14, .bin .lss (.t 11) (.t 13), none⟩] none)
        (.cond (.t 14) (.skip)
         (.exit 0)))
       (.seq (.blk 1 (.seq (.reg [0, 1, 5, 26] [] [
            ⟨some 17, .mv (.t 0), none⟩,
            ⟨some 18, .mv (.t 5), none⟩,
            ⟨some 19, .iad 5 (.t 17) (.t 18), none⟩,
            ⟨some 20, .ld true 5 (.t 19), none⟩,
            ⟨some 21, .mv (.t 1), none⟩,
            ⟨some 22, .mv (.t 5), none⟩,
            ⟨some 23, .iad 5 (.t 21) (.t 22), none⟩,
            ⟨some 24, .ld true 5 (.t 23), none⟩,
            ⟨some 25, .call 142 [] [(.t 20), (.t 24)], none⟩,
            ⟨some 26, .un .not (.t 25), none⟩] (some []))
          (.cond (.t 26) (.seq (.reg [4] [] [
              ⟨some 4, .mv (.c (.v false (.bool false))), none⟩] none)
            (.ret))
           (.skip))))
        (.reg [0, 1, 5] [] [
          ⟨some 15, .mv (.t 5), none⟩,
          ⟨some 16, .bin .add (.t 15) (.c (.v false (.int .i64 1))), none⟩,
          ⟨some 5, .mv (.t 16), none⟩] none))

def pb143 : PC :=
.seq (.reg [0, 1] [] [
   ⟨some 4, .mv (.c (.v false (.bool false))), none⟩] none)
 (.seq (.seq (.reg [0, 1, 10] [] [
     ⟨some 6, .mv (.t 0), none⟩,
     ⟨some 7, .len (.t 6), none⟩,
     ⟨some 8, .mv (.t 1), none⟩,
     ⟨some 9, .len (.t 8), none⟩,
     ⟨some 10, .bin .neq (.t 7) (.t 9), none⟩] none)
   (.cond (.t 10) (.seq (.reg [4] [] [
       ⟨some 4, .mv (.c (.v false (.bool false))), none⟩] none)
     (.ret))
    (.skip)))
  (.seq (.seq (.reg [0, 1, 5] [] [
      ⟨some 5, .mv (.c (.v false (.int .i64 0))), none⟩] none)
    (.blk 0 (.loop pl143_0)))
   (.seq (.reg [4] [] [
      ⟨some 4, .mv (.c (.v false (.bool true))), none⟩] none)
    (.ret))))

def pf143 : PF := ⟨[.s 4], [], pb143⟩

-- loop.example/g00496/laws.eqByteS
def pl144_0 : PC :=
.seq (.seq (.reg [0, 1, 5, 14] [] [
          ⟨some 11, .mv (.t 5), none⟩,
          ⟨some 12, .mv (.t 0), none⟩,
          ⟨some 13, .len (.t 12), none⟩,
          ⟨some 14, .bin .lss (.t 11) (.t 13), none⟩] none)
        (.cond (.t 14) (.skip)
         (.exit 0)))
       (.seq (.blk 1 (.seq (.reg [0, 1, 5, 25] [] [
            ⟨some 17, .mv (.t 0), none⟩,
            ⟨some 18, .mv (.t 5), none⟩,
            ⟨some 19, .iad 1 (.t 17) (.t 18), none⟩,
            ⟨some 20, .ld false 1 (.t 19), none⟩,
            ⟨some 21, .mv (.t 1), none⟩,
            ⟨some 22, .mv (.t 5), none⟩,
            ⟨some 23, .iad 1 (.t 21) (.t 22), none⟩,
            ⟨some 24, .ld false 1 (.t 23), none⟩,
            ⟨some 25, .bin .neq (.t 20) (.t 24), none⟩] (some []))
          (.cond (.t 25) (.seq (.reg [4] [] [
              ⟨some 4, .mv (.c (.v false (.bool false))), none⟩] none)
            (.ret))
           (.skip))))
        (.reg [0, 1, 5] [] [
          ⟨some 15, .mv (.t 5), none⟩,
          ⟨some 16, .bin .add (.t 15) (.c (.v false (.int .i64 1))), none⟩,
          ⟨some 5, .mv (.t 16), none⟩] none))

def pb144 : PC :=
.seq (.reg [0, 1] [] [
   ⟨some 4, .mv (.c (.v false (.bool false))), none⟩] none)
 (.seq (.seq (.reg [0, 1, 10] [] [
     ⟨some 6, .mv (.t 0), none⟩,
     ⟨some 7, .len (.t 6), none⟩,
     ⟨some 8, .mv (.t 1), none⟩,
     ⟨some 9, .len (.t 8), none⟩,
     ⟨some 10, .bin .neq (.t 7) (.t 9), none⟩] none)
   (.cond (.t 10) (.seq (.reg [4] [] [
       ⟨some 4, .mv (.c (.v false (.bool false))), none⟩] none)
     (.ret))
    (.skip)))
  (.seq (.seq (.reg [0, 1, 5] [] [
      ⟨some 5, .mv (.c (.v false (.int .i64 0))), none⟩] none)
    (.blk 0 (.loop pl144_0)))
   (.seq (.reg [4] [] [
      ⟨some 4, .mv (.c (.v false (.bool true))), none⟩] none)
    (.ret))))

def pf144 : PF := ⟨[.s 4], [], pb144⟩

-- loop.example/g00496/laws.eqChunk
def pb145 : PC :=
.seq (.reg [2, 3] [] [
   ⟨some 2, .box 2 (.t 0), none⟩,
   ⟨some 3, .box 2 (.t 1), none⟩,
   ⟨some 4, .mv (.c (.v false (.bool false))), none⟩] none)
 (.seq (.seq (.reg [2, 3, 9] [] [
     ⟨some 5, .fad (.t 2) 0, none⟩,
     ⟨some 6, .ld false 1 (.t 5), none⟩,
     ⟨some 7, .fad (.t 3) 0, none⟩,
     ⟨some 8, .ld false 1 (.t 7), none⟩,
     ⟨some 9, .bin .neq (.t 6) (.t 8), none⟩] none)
   (.cond (.t 9) (.seq (.reg [4] [] [
       ⟨some 4, .mv (.c (.v false (.bool false))), none⟩] none)
     (.ret))
    (.skip)))
  (.seq (.seq (.reg [15] [] [
      ⟨some 10, .fad (.t 2) 1, none⟩,
      ⟨some 11, .ld false 1 (.t 10), none⟩,
      ⟨some 12, .fad (.t 3) 1, none⟩,
      ⟨some 13, .ld false 1 (.t 12), none⟩,
      ⟨some 14, .call 162 [] [(.t 11), (.t 13)], none⟩,
      ⟨some 15, .un .not (.t 14), none⟩] none)
    (.cond (.t 15) (.seq (.reg [4] [] [
        ⟨some 4, .mv (.c (.v false (.bool false))), none⟩] none)
      (.ret))
     (.skip)))
   (.seq (.reg [4] [] [
      ⟨some 4, .mv (.c (.v false (.bool true))), none⟩] none)
    (.ret))))

def pf145 : PF := ⟨[.s 4], [], pb145⟩

-- loop.example/g00496/laws.eqConf
def pb146 : PC :=
.seq (.reg [2, 3] [] [
   ⟨some 2, .box 3 (.t 0), none⟩,
   ⟨some 3, .box 3 (.t 1), none⟩,
   ⟨some 4, .mv (.c (.v false (.bool false))), none⟩] none)
 (.seq (.seq (.reg [2, 3, 10] [] [
     ⟨some 5, .fad (.t 2) 0, none⟩,
     ⟨some 6, .ld false 1 (.t 5), none⟩,
     ⟨some 7, .fad (.t 3) 0, none⟩,
     ⟨some 8, .ld false 1 (.t 7), none⟩,
     ⟨some 9, .call 152 [] [(.t 6), (.t 8)], none⟩,
     ⟨some 10, .un .not (.t 9), none⟩] none)
   (.cond (.t 10) (.seq (.reg [4] [] [
       ⟨some 4, .mv (.c (.v false (.bool false))), none⟩] none)
     (.ret))
    (.skip)))
  (.seq (.seq (.reg [2, 3, 15] [] [
      ⟨some 11, .fad (.t 2) 1, none⟩,
      ⟨some 12, .ld false 1 (.t 11), none⟩,
      ⟨some 13, .fad (.t 3) 1, none⟩,
      ⟨some 14, .ld false 1 (.t 13), none⟩,
      ⟨some 15, .bin .neq (.t 12) (.t 14), none⟩] none)
    (.cond (.t 15) (.seq (.reg [4] [] [
        ⟨some 4, .mv (.c (.v false (.bool false))), none⟩] none)
      (.ret))
     (.skip)))
   (.seq (.seq (.reg [20] [] [
       ⟨some 16, .fad (.t 2) 2, none⟩,
       ⟨some 17, .ld false 1 (.t 16), none⟩,
       ⟨some 18, .fad (.t 3) 2, none⟩,
       ⟨some 19, .ld false 1 (.t 18), none⟩,
       ⟨some 20, .bin .neq (.t 17) (.t 19), none⟩] none)
     (.cond (.t 20) (.seq (.reg [4] [] [
         ⟨some 4, .mv (.c (.v false (.bool false))), none⟩] none)
       (.ret))
      (.skip)))
    (.seq (.reg [4] [] [
       ⟨some 4, .mv (.c (.v false (.bool true))), none⟩] none)
     (.ret)))))

def pf146 : PF := ⟨[.s 4], [], pb146⟩

-- loop.example/g00496/laws.eqDead
def pb147 : PC :=
.seq (.reg [2, 3] [] [
   ⟨some 2, .box 3 (.t 0), none⟩,
   ⟨some 3, .box 3 (.t 1), none⟩,
   ⟨some 4, .mv (.c (.v false (.bool false))), none⟩] none)
 (.seq (.seq (.reg [2, 3, 9] [] [
     ⟨some 5, .fad (.t 2) 0, none⟩,
     ⟨some 6, .ld false 1 (.t 5), none⟩,
     ⟨some 7, .fad (.t 3) 0, none⟩,
     ⟨some 8, .ld false 1 (.t 7), none⟩,
     ⟨some 9, .bin .neq (.t 6) (.t 8), none⟩] none)
   (.cond (.t 9) (.seq (.reg [4] [] [
       ⟨some 4, .mv (.c (.v false (.bool false))), none⟩] none)
     (.ret))
    (.skip)))
  (.seq (.seq (.reg [2, 3, 14] [] [
      ⟨some 10, .fad (.t 2) 1, none⟩,
      ⟨some 11, .ld false 1 (.t 10), none⟩,
      ⟨some 12, .fad (.t 3) 1, none⟩,
      ⟨some 13, .ld false 1 (.t 12), none⟩,
      ⟨some 14, .bin .neq (.t 11) (.t 13), none⟩] none)
    (.cond (.t 14) (.seq (.reg [4] [] [
        ⟨some 4, .mv (.c (.v false (.bool false))), none⟩] none)
      (.ret))
     (.skip)))
   (.seq (.seq (.reg [19] [] [
       ⟨some 15, .fad (.t 2) 2, none⟩,
       ⟨some 16, .ld false 1 (.t 15), none⟩,
       ⟨some 17, .fad (.t 3) 2, none⟩,
       ⟨some 18, .ld false 1 (.t 17), none⟩,
       ⟨some 19, .bin .neq (.t 16) (.t 18), none⟩] none)
     (.cond (.t 19) (.seq (.reg [4] [] [
         ⟨some 4, .mv (.c (.v false (.bool false))), none⟩] none)
       (.ret))
      (.skip)))
    (.seq (.reg [4] [] [
       ⟨some 4, .mv (.c (.v false (.bool true))), none⟩] none)
     (.ret)))))

def pf147 : PF := ⟨[.s 4], [], pb147⟩

-- loop.example/g00496/laws.eqDeadS
def pl148_0 : PC :=
.seq (.seq (.reg [0, 1, 5, 14] [] [
          ⟨some 11, .mv (.t 5), none⟩,
          ⟨some 12, .mv (.t 0), none⟩,
          ⟨some 13, .len (.t 12), none⟩,
          ⟨some 14, .bin .lss (.t 11) (.t 13), none⟩] none)
        (.cond (.t 14) (.skip)
         (.exit 0)))
       (.seq (.blk 1 (.seq (.reg [0, 1, 5, 26] [] [
            ⟨some 17, .mv (.t 0), none⟩,
            ⟨some 18, .mv (.t 5), none⟩,
            ⟨some 19, .iad 3 (.t 17) (.t 18), none⟩,
            ⟨some 20, .ld true 3 (.t 19), none⟩,
            ⟨some 21, .mv (.t 1), none⟩,
            ⟨some 22, .mv (.t 5), none⟩,
            ⟨some 23, .iad 3 (.t 21) (.t 22), none⟩,
            ⟨some 24, .ld true 3 (.t 23), none⟩,
            ⟨some 25, .call 147 [] [(.t 20), (.t 24)], none⟩,
            ⟨some 26, .un .not (.t 25), none⟩] (some []))
          (.cond (.t 26) (.seq (.reg [4] [] [
              ⟨some 4, .mv (.c (.v false (.bool false))), none⟩] none)
            (.ret))
           (.skip))))
        (.reg [0, 1, 5] [] [
          ⟨some 15, .mv (.t 5), none⟩,
          ⟨some 16, .bin .add (.t 15) (.c (.v false (.int .i64 1))), none⟩,
          ⟨some 5, .mv (.t 16), none⟩] none))

def pb148 : PC :=
.seq (.reg [0, 1] [] [
   ⟨some 4, .mv (.c (.v false (.bool false))), none⟩] none)
 (.seq (.seq (.reg [0, 1, 10] [] [
     ⟨some 6, .mv (.t 0), none⟩,
     ⟨some 7, .len (.t 6), none⟩,
     ⟨some 8, .mv (.t 1), none⟩,
     ⟨some 9, .len (.t 8), none⟩,
     ⟨some 10, .bin .neq (.t 7) (.t 9), none⟩] none)
   (.cond (.t 10) (.seq (.reg [4] [] [
       ⟨some 4, .mv (.c (.v false (.bool false))), none⟩] none)
     (.ret))
    (.skip)))
  (.seq (.seq (.reg [0, 1, 5] [] [
      ⟨some 5, .mv (.c (.v false (.int .i64 0))), none⟩] none)
    (.blk 0 (.loop pl148_0)))
   (.seq (.reg [4] [] [
      ⟨some 4, .mv (.c (.v false (.bool true))), none⟩] none)
    (.ret))))

def pf148 : PF := ⟨[.s 4], [], pb148⟩

-- loop.example/g00496/laws.eqDeed
def pb149 : PC :=
.seq (.reg [2, 3] [] [
   ⟨some 2, .box 25 (.t 0), none⟩,
   ⟨some 3, .box 25 (.t 1), none⟩,
   ⟨some 4, .mv (.c (.v false (.bool false))), none⟩] none)
 (.seq (.seq (.reg [2, 3, 9] [] [
     ⟨some 5, .fad (.t 2) 0, none⟩,
     ⟨some 6, .ld false 1 (.t 5), none⟩,
     ⟨some 7, .fad (.t 3) 0, none⟩,
     ⟨some 8, .ld false 1 (.t 7), none⟩,
     ⟨some 9, .bin .neq (.t 6) (.t 8), none⟩] none)
   (.cond (.t 9) (.seq (.reg [4] [] [
       ⟨some 4, .mv (.c (.v false (.bool false))), none⟩] none)
     (.ret))
    (.skip)))
  (.seq (.seq (.reg [2, 3, 14] [] [
      ⟨some 10, .fad (.t 2) 1, none⟩,
      ⟨some 11, .ld false 1 (.t 10), none⟩,
      ⟨some 12, .fad (.t 3) 1, none⟩,
      ⟨some 13, .ld false 1 (.t 12), none⟩,
      ⟨some 14, .bin .neq (.t 11) (.t 13), none⟩] none)
    (.cond (.t 14) (.seq (.reg [4] [] [
        ⟨some 4, .mv (.c (.v false (.bool false))), none⟩] none)
      (.ret))
     (.skip)))
   (.seq (.seq (.reg [2, 3, 20] [] [
       ⟨some 15, .fad (.t 2) 2, none⟩,
       ⟨some 16, .ld false 1 (.t 15), none⟩,
       ⟨some 17, .fad (.t 3) 2, none⟩,
       ⟨some 18, .ld false 1 (.t 17), none⟩,
       ⟨some 19, .call 166 [] [(.t 16), (.t 18)], none⟩,
       ⟨some 20, .un .not (.t 19), none⟩] none)
     (.cond (.t 20) (.seq (.reg [4] [] [
         ⟨some 4, .mv (.c (.v false (.bool false))), none⟩] none)
       (.ret))
      (.skip)))
    (.seq (.seq (.reg [2, 3, 25] [] [
        ⟨some 21, .fad (.t 2) 3, none⟩,
        ⟨some 22, .ld false 1 (.t 21), none⟩,
        ⟨some 23, .fad (.t 3) 3, none⟩,
        ⟨some 24, .ld false 1 (.t 23), none⟩,
        ⟨some 25, .bin .neq (.t 22) (.t 24), none⟩] none)
      (.cond (.t 25) (.seq (.reg [4] [] [
          ⟨some 4, .mv (.c (.v false (.bool false))), none⟩] none)
        (.ret))
       (.skip)))
     (.seq (.seq (.reg [2, 3, 31] [] [
         ⟨some 26, .fad (.t 2) 4, none⟩,
         ⟨some 27, .ld true 10 (.t 26), none⟩,
         ⟨some 28, .fad (.t 3) 4, none⟩,
         ⟨some 29, .ld true 10 (.t 28), none⟩,
         ⟨some 30, .call 155 [] [(.t 27), (.t 29)], none⟩,
         ⟨some 31, .un .not (.t 30), none⟩] none)
       (.cond (.t 31) (.seq (.reg [4] [] [
           ⟨some 4, .mv (.c (.v false (.bool false))), none⟩] none)
         (.ret))
        (.skip)))
      (.seq (.seq (.reg [2, 3, 37] [] [
          ⟨some 32, .fad (.t 2) 14, none⟩,
          ⟨some 33, .ld true 6 (.t 32), none⟩,
          ⟨some 34, .fad (.t 3) 14, none⟩,
          ⟨some 35, .ld true 6 (.t 34), none⟩,
          ⟨some 36, .call 158 [] [(.t 33), (.t 35)], none⟩,
          ⟨some 37, .un .not (.t 36), none⟩] none)
        (.cond (.t 37) (.seq (.reg [4] [] [
            ⟨some 4, .mv (.c (.v false (.bool false))), none⟩] none)
          (.ret))
         (.skip)))
       (.seq (.seq (.reg [2, 3, 42] [] [
           ⟨some 38, .fad (.t 2) 20, none⟩,
           ⟨some 39, .ld false 1 (.t 38), none⟩,
           ⟨some 40, .fad (.t 3) 20, none⟩,
           ⟨some 41, .ld false 1 (.t 40), none⟩,
           ⟨some 42, .bin .neq (.t 39) (.t 41), none⟩] none)
         (.cond (.t 42) (.seq (.reg [4] [] [
             ⟨some 4, .mv (.c (.v false (.bool false))), none⟩] none)
           (.ret))
          (.skip)))
        (.seq (.seq (.reg [2, 3, 47] [] [
            ⟨some 43, .fad (.t 2) 21, none⟩,
            ⟨some 44, .ld false 1 (.t 43), none⟩,
            ⟨some 45, .fad (.t 3) 21, none⟩,
            ⟨some 46, .ld false 1 (.t 45), none⟩,
            ⟨some 47, .bin .neq (.t 44) (.t 46), none⟩] none)
          (.cond (.t 47) (.seq (.reg [4] [] [
              ⟨some 4, .mv (.c (.v false (.bool false))), none⟩] none)
            (.ret))
           (.skip)))
         (.seq (.seq (.reg [2, 3, 52] [] [
             ⟨some 48, .fad (.t 2) 22, none⟩,
             ⟨some 49, .ld false 1 (.t 48), none⟩,
             ⟨some 50, .fad (.t 3) 22, none⟩,
             ⟨some 51, .ld false 1 (.t 50), none⟩,
             ⟨some 52, .bin .neq (.t 49) (.t 51), none⟩] none)
           (.cond (.t 52) (.seq (.reg [4] [] [
               ⟨some 4, .mv (.c (.v false (.bool false))), none⟩] none)
             (.ret))
            (.skip)))
          (.seq (.seq (.reg [2, 3, 57] [] [
              ⟨some 53, .fad (.t 2) 23, none⟩,
              ⟨some 54, .ld false 1 (.t 53), none⟩,
              ⟨some 55, .fad (.t 3) 23, none⟩,
              ⟨some 56, .ld false 1 (.t 55), none⟩,
              ⟨some 57, .bin .neq (.t 54) (.t 56), none⟩] none)
            (.cond (.t 57) (.seq (.reg [4] [] [
                ⟨some 4, .mv (.c (.v false (.bool false))), none⟩] none)
              (.ret))
             (.skip)))
           (.seq (.seq (.reg [62] [] [
               ⟨some 58, .fad (.t 2) 24, none⟩,
               ⟨some 59, .ld false 1 (.t 58), none⟩,
               ⟨some 60, .fad (.t 3) 24, none⟩,
               ⟨some 61, .ld false 1 (.t 60), none⟩,
               ⟨some 62, .bin .neq (.t 59) (.t 61), none⟩] none)
             (.cond (.t 62) (.seq (.reg [4] [] [
                 ⟨some 4, .mv (.c (.v false (.bool false))), none⟩] none)
               (.ret))
              (.skip)))
            (.seq (.reg [4] [] [
               ⟨some 4, .mv (.c (.v false (.bool true))), none⟩] none)
             (.ret)))))))))))))

def pf149 : PF := ⟨[.s 4], [], pb149⟩

-- loop.example/g00496/laws.eqDeedS
def pl150_0 : PC :=
.seq (.seq (.reg [0, 1, 5, 14] [] [
          ⟨some 11, .mv (.t 5), none⟩,
          ⟨some 12, .mv (.t 0), none⟩,
          ⟨some 13, .len (.t 12), none⟩,
          ⟨some 14, .bin .lss (.t 11) (.t 13), none⟩] none)
        (.cond (.t 14) (.skip)
         (.exit 0)))
       (.seq (.blk 1 (.seq (.reg [0, 1, 5, 26] [] [
            ⟨some 17, .mv (.t 0), none⟩,
            ⟨some 18, .mv (.t 5), none⟩,
            ⟨some 19, .iad 25 (.t 17) (.t 18), none⟩,
            ⟨some 20, .ld true 25 (.t 19), none⟩,
            ⟨some 21, .mv (.t 1), none⟩,
            ⟨some 22, .mv (.t 5), none⟩,
            ⟨some 23, .iad 25 (.t 21) (.t 22), none⟩,
            ⟨some 24, .ld true 25 (.t 23), none⟩,
            ⟨some 25, .call 149 [] [(.t 20), (.t 24)], none⟩,
            ⟨some 26, .un .not (.t 25), none⟩] (some []))
          (.cond (.t 26) (.seq (.reg [4] [] [
              ⟨some 4, .mv (.c (.v false (.bool false))), none⟩] none)
            (.ret))
           (.skip))))
        (.reg [0, 1, 5] [] [
          ⟨some 15, .mv (.t 5), none⟩,
          ⟨some 16, .bin .add (.t 15) (.c (.v false (.int .i64 1))), none⟩,
          ⟨some 5, .mv (.t 16), none⟩] none))

def pb150 : PC :=
.seq (.reg [0, 1] [] [
   ⟨some 4, .mv (.c (.v false (.bool false))), none⟩] none)
 (.seq (.seq (.reg [0, 1, 10] [] [
     ⟨some 6, .mv (.t 0), none⟩,
     ⟨some 7, .len (.t 6), none⟩,
     ⟨some 8, .mv (.t 1), none⟩,
     ⟨some 9, .len (.t 8), none⟩,
     ⟨some 10, .bin .neq (.t 7) (.t 9), none⟩] none)
   (.cond (.t 10) (.seq (.reg [4] [] [
       ⟨some 4, .mv (.c (.v false (.bool false))), none⟩] none)
     (.ret))
    (.skip)))
  (.seq (.seq (.reg [0, 1, 5] [] [
      ⟨some 5, .mv (.c (.v false (.int .i64 0))), none⟩] none)
    (.blk 0 (.loop pl150_0)))
   (.seq (.reg [4] [] [
      ⟨some 4, .mv (.c (.v false (.bool true))), none⟩] none)
    (.ret))))

def pf150 : PF := ⟨[.s 4], [], pb150⟩

-- loop.example/g00496/laws.eqDir
def pb151 : PC :=
.seq (.reg [2, 3] [] [
   ⟨some 2, .box 2 (.t 0), none⟩,
   ⟨some 3, .box 2 (.t 1), none⟩,
   ⟨some 4, .mv (.c (.v false (.bool false))), none⟩] none)
 (.seq (.seq (.reg [2, 3, 9] [] [
     ⟨some 5, .fad (.t 2) 0, none⟩,
     ⟨some 6, .ld false 1 (.t 5), none⟩,
     ⟨some 7, .fad (.t 3) 0, none⟩,
     ⟨some 8, .ld false 1 (.t 7), none⟩,
     ⟨some 9, .bin .neq (.t 6) (.t 8), none⟩] none)
   (.cond (.t 9) (.seq (.reg [4] [] [
       ⟨some 4, .mv (.c (.v false (.bool false))), none⟩] none)
     (.ret))
    (.skip)))
  (.seq (.seq (.reg [15] [] [
      ⟨some 10, .fad (.t 2) 1, none⟩,
      ⟨some 11, .ld false 1 (.t 10), none⟩,
      ⟨some 12, .fad (.t 3) 1, none⟩,
      ⟨some 13, .ld false 1 (.t 12), none⟩,
      ⟨some 14, .call 157 [] [(.t 11), (.t 13)], none⟩,
      ⟨some 15, .un .not (.t 14), none⟩] none)
    (.cond (.t 15) (.seq (.reg [4] [] [
        ⟨some 4, .mv (.c (.v false (.bool false))), none⟩] none)
      (.ret))
     (.skip)))
   (.seq (.reg [4] [] [
      ⟨some 4, .mv (.c (.v false (.bool true))), none⟩] none)
    (.ret))))

def pf151 : PF := ⟨[.s 4], [], pb151⟩

-- loop.example/g00496/laws.eqIntS
def pl152_0 : PC :=
.seq (.seq (.reg [0, 1, 5, 14] [] [
          ⟨some 11, .mv (.t 5), none⟩,
          ⟨some 12, .mv (.t 0), none⟩,
          ⟨some 13, .len (.t 12), none⟩,
          ⟨some 14, .bin .lss (.t 11) (.t 13), none⟩] none)
        (.cond (.t 14) (.skip)
         (.exit 0)))
       (.seq (.blk 1 (.seq (.reg [0, 1, 5, 25] [] [
            ⟨some 17, .mv (.t 0), none⟩,
            ⟨some 18, .mv (.t 5), none⟩,
            ⟨some 19, .iad 1 (.t 17) (.t 18), none⟩,
            ⟨some 20, .ld false 1 (.t 19), none⟩,
            ⟨some 21, .mv (.t 1), none⟩,
            ⟨some 22, .mv (.t 5), none⟩,
            ⟨some 23, .iad 1 (.t 21) (.t 22), none⟩,
            ⟨some 24, .ld false 1 (.t 23), none⟩,
            ⟨some 25, .bin .neq (.t 20) (.t 24), none⟩] (some []))
          (.cond (.t 25) (.seq (.reg [4] [] [
              ⟨some 4, .mv (.c (.v false (.bool false))), none⟩] none)
            (.ret))
           (.skip))))
        (.reg [0, 1, 5] [] [
          ⟨some 15, .mv (.t 5), none⟩,
          ⟨some 16, .bin .add (.t 15) (.c (.v false (.int .i64 1))), none⟩,
          ⟨some 5, .mv (.t 16), none⟩] none))

def pb152 : PC :=
.seq (.reg [0, 1] [] [
   ⟨some 4, .mv (.c (.v false (.bool false))), none⟩] none)
 (.seq (.seq (.reg [0, 1, 10] [] [
     ⟨some 6, .mv (.t 0), none⟩,
     ⟨some 7, .len (.t 6), none⟩,
     ⟨some 8, .mv (.t 1), none⟩,
     ⟨some 9, .len (.t 8), none⟩,
     ⟨some 10, .bin .neq (.t 7) (.t 9), none⟩] none)
   (.cond (.t 10) (.seq (.reg [4] [] [
       ⟨some 4, .mv (.c (.v false (.bool false))), none⟩] none)
     (.ret))
    (.skip)))
  (.seq (.seq (.reg [0, 1, 5] [] [
      ⟨some 5, .mv (.c (.v false (.int .i64 0))), none⟩] none)
    (.blk 0 (.loop pl152_0)))
   (.seq (.reg [4] [] [
      ⟨some 4, .mv (.c (.v false (.bool true))), none⟩] none)
    (.ret))))

def pf152 : PF := ⟨[.s 4], [], pb152⟩

-- loop.example/g00496/laws.eqPred
def pb153 : PC :=
.seq (.reg [2, 3] [] [
   ⟨some 2, .box 7 (.t 0), none⟩,
   ⟨some 3, .box 7 (.t 1), none⟩,
   ⟨some 4, .mv (.c (.v false (.bool false))), none⟩] none)
 (.seq (.seq (.reg [2, 3, 9] [] [
     ⟨some 5, .fad (.t 2) 0, none⟩,
     ⟨some 6, .ld false 1 (.t 5), none⟩,
     ⟨some 7, .fad (.t 3) 0, none⟩,
     ⟨some 8, .ld false 1 (.t 7), none⟩,
     ⟨some 9, .bin .neq (.t 6) (.t 8), none⟩] none)
   (.cond (.t 9) (.seq (.reg [4] [] [
       ⟨some 4, .mv (.c (.v false (.bool false))), none⟩] none)
     (.ret))
    (.skip)))
  (.seq (.seq (.reg [2, 3, 14] [] [
      ⟨some 10, .fad (.t 2) 1, none⟩,
      ⟨some 11, .ld false 1 (.t 10), none⟩,
      ⟨some 12, .fad (.t 3) 1, none⟩,
      ⟨some 13, .ld false 1 (.t 12), none⟩,
      ⟨some 14, .bin .neq (.t 11) (.t 13), none⟩] none)
    (.cond (.t 14) (.seq (.reg [4] [] [
        ⟨some 4, .mv (.c (.v false (.bool false))), none⟩] none)
      (.ret))
     (.skip)))
   (.seq (.seq (.reg [2, 3, 19] [] [
       ⟨some 15, .fad (.t 2) 2, none⟩,
       ⟨some 16, .ld false 1 (.t 15), none⟩,
       ⟨some 17, .fad (.t 3) 2, none⟩,
       ⟨some 18, .ld false 1 (.t 17), none⟩,
       ⟨some 19, .bin .neq (.t 16) (.t 18), none⟩] none)
     (.cond (.t 19) (.seq (.reg [4] [] [
         ⟨some 4, .mv (.c (.v false (.bool false))), none⟩] none)
       (.ret))
      (.skip)))
    (.seq (.seq (.reg [2, 3, 25] [] [
        ⟨some 20, .fad (.t 2) 3, none⟩,
        ⟨some 21, .ld true 3 (.t 20), none⟩,
        ⟨some 22, .fad (.t 3) 3, none⟩,
        ⟨some 23, .ld true 3 (.t 22), none⟩,
        ⟨some 24, .call 165 [] [(.t 21), (.t 23)], none⟩,
        ⟨some 25, .un .not (.t 24), none⟩] none)
      (.cond (.t 25) (.seq (.reg [4] [] [
          ⟨some 4, .mv (.c (.v false (.bool false))), none⟩] none)
        (.ret))
       (.skip)))
     (.seq (.seq (.reg [31] [] [
         ⟨some 26, .fad (.t 2) 6, none⟩,
         ⟨some 27, .ld false 1 (.t 26), none⟩,
         ⟨some 28, .fad (.t 3) 6, none⟩,
         ⟨some 29, .ld false 1 (.t 28), none⟩,
         ⟨some 30, .call 154 [] [(.t 27), (.t 29)], none⟩,
         ⟨some 31, .un .not (.t 30), none⟩] none)
       (.cond (.t 31) (.seq (.reg [4] [] [
           ⟨some 4, .mv (.c (.v false (.bool false))), none⟩] none)
         (.ret))
        (.skip)))
      (.seq (.reg [4] [] [
         ⟨some 4, .mv (.c (.v false (.bool true))), none⟩] none)
       (.ret)))))))

def pf153 : PF := ⟨[.s 4], [], pb153⟩

-- loop.example/g00496/laws.eqPredS
def pl154_0 : PC :=
.seq (.seq (.reg [0, 1, 5, 14] [] [
          ⟨some 11, .mv (.t 5), none⟩,
          ⟨some 12, .mv (.t 0), none⟩,
          ⟨some 13, .len (.t 12), none⟩,
          ⟨some 14, .bin .lss (.t 11) (.t 13), none⟩] none)
        (.cond (.t 14) (.skip)
         (.exit 0)))
       (.seq (.blk 1 (.seq (.reg [0, 1, 5, 26] [] [
            ⟨some 17, .mv (.t 0), none⟩,
            ⟨some 18, .mv (.t 5), none⟩,
            ⟨some 19, .iad 7 (.t 17) (.t 18), none⟩,
            ⟨some 20, .ld true 7 (.t 19), none⟩,
            ⟨some 21, .mv (.t 1), none⟩,
            ⟨some 22, .mv (.t 5), none⟩,
            ⟨some 23, .iad 7 (.t 21) (.t 22), none⟩,
            ⟨some 24, .ld true 7 (.t 23), none⟩,
            ⟨some 25, .call 153 [] [(.t 20), (.t 24)], none⟩,
            ⟨some 26, .un .not (.t 25), none⟩] (some []))
          (.cond (.t 26) (.seq (.reg [4] [] [
              ⟨some 4, .mv (.c (.v false (.bool false))), none⟩] none)
            (.ret))
           (.skip))))
        (.reg [0, 1, 5] [] [
          ⟨some 15, .mv (.t 5), none⟩,
          ⟨some 16, .bin .add (.t 15) (.c (.v false (.int .i64 1))), none⟩,
          ⟨some 5, .mv (.t 16), none⟩] none))

def pb154 : PC :=
.seq (.reg [0, 1] [] [
   ⟨some 4, .mv (.c (.v false (.bool false))), none⟩] none)
 (.seq (.seq (.reg [0, 1, 10] [] [
     ⟨some 6, .mv (.t 0), none⟩,
     ⟨some 7, .len (.t 6), none⟩,
     ⟨some 8, .mv (.t 1), none⟩,
     ⟨some 9, .len (.t 8), none⟩,
     ⟨some 10, .bin .neq (.t 7) (.t 9), none⟩] none)
   (.cond (.t 10) (.seq (.reg [4] [] [
       ⟨some 4, .mv (.c (.v false (.bool false))), none⟩] none)
     (.ret))
    (.skip)))
  (.seq (.seq (.reg [0, 1, 5] [] [
      ⟨some 5, .mv (.c (.v false (.int .i64 0))), none⟩] none)
    (.blk 0 (.loop pl154_0)))
   (.seq (.reg [4] [] [
      ⟨some 4, .mv (.c (.v false (.bool true))), none⟩] none)
    (.ret))))

def pf154 : PF := ⟨[.s 4], [], pb154⟩

-- loop.example/g00496/laws.eqQuery
def pb155 : PC :=
.seq (.reg [2, 3] [] [
   ⟨some 2, .box 10 (.t 0), none⟩,
   ⟨some 3, .box 10 (.t 1), none⟩,
   ⟨some 4, .mv (.c (.v false (.bool false))), none⟩] none)
 (.seq (.seq (.reg [2, 3, 9] [] [
     ⟨some 5, .fad (.t 2) 0, none⟩,
     ⟨some 6, .ld false 1 (.t 5), none⟩,
     ⟨some 7, .fad (.t 3) 0, none⟩,
     ⟨some 8, .ld false 1 (.t 7), none⟩,
     ⟨some 9, .bin .neq (.t 6) (.t 8), none⟩] none)
   (.cond (.t 9) (.seq (.reg [4] [] [
       ⟨some 4, .mv (.c (.v false (.bool false))), none⟩] none)
     (.ret))
    (.skip)))
  (.seq (.seq (.reg [2, 3, 15] [] [
      ⟨some 10, .fad (.t 2) 1, none⟩,
      ⟨some 11, .ld true 7 (.t 10), none⟩,
      ⟨some 12, .fad (.t 3) 1, none⟩,
      ⟨some 13, .ld true 7 (.t 12), none⟩,
      ⟨some 14, .call 153 [] [(.t 11), (.t 13)], none⟩,
      ⟨some 15, .un .not (.t 14), none⟩] none)
    (.cond (.t 15) (.seq (.reg [4] [] [
        ⟨some 4, .mv (.c (.v false (.bool false))), none⟩] none)
      (.ret))
     (.skip)))
   (.seq (.seq (.reg [2, 3, 20] [] [
       ⟨some 16, .fad (.t 2) 8, none⟩,
       ⟨some 17, .ld false 1 (.t 16), none⟩,
       ⟨some 18, .fad (.t 3) 8, none⟩,
       ⟨some 19, .ld false 1 (.t 18), none⟩,
       ⟨some 20, .bin .neq (.t 17) (.t 19), none⟩] none)
     (.cond (.t 20) (.seq (.reg [4] [] [
         ⟨some 4, .mv (.c (.v false (.bool false))), none⟩] none)
       (.ret))
      (.skip)))
    (.seq (.seq (.reg [26] [] [
        ⟨some 21, .fad (.t 2) 9, none⟩,
        ⟨some 22, .ld false 1 (.t 21), none⟩,
        ⟨some 23, .fad (.t 3) 9, none⟩,
        ⟨some 24, .ld false 1 (.t 23), none⟩,
        ⟨some 25, .call 152 [] [(.t 22), (.t 24)], none⟩,
        ⟨some 26, .un .not (.t 25), none⟩] none)
      (.cond (.t 26) (.seq (.reg [4] [] [
          ⟨some 4, .mv (.c (.v false (.bool false))), none⟩] none)
        (.ret))
       (.skip)))
     (.seq (.reg [4] [] [
        ⟨some 4, .mv (.c (.v false (.bool true))), none⟩] none)
      (.ret))))))

def pf155 : PF := ⟨[.s 4], [], pb155⟩

-- loop.example/g00496/laws.eqRef
def pb156 : PC :=
.seq (.reg [2, 3] [] [
   ⟨some 2, .box 5 (.t 0), none⟩,
   ⟨some 3, .box 5 (.t 1), none⟩,
   ⟨some 4, .mv (.c (.v false (.bool false))), none⟩] none)
 (.seq (.seq (.reg [2, 3, 9] [] [
     ⟨some 5, .fad (.t 2) 0, none⟩,
     ⟨some 6, .ld false 1 (.t 5), none⟩,
     ⟨some 7, .fad (.t 3) 0, none⟩,
     ⟨some 8, .ld false 1 (.t 7), none⟩,
     ⟨some 9, .bin .neq (.t 6) (.t 8), none⟩] none)
   (.cond (.t 9) (.seq (.reg [4] [] [
       ⟨some 4, .mv (.c (.v false (.bool false))), none⟩] none)
     (.ret))
    (.skip)))
  (.seq (.seq (.reg [2, 3, 14] [] [
      ⟨some 10, .fad (.t 2) 1, none⟩,
      ⟨some 11, .ld false 1 (.t 10), none⟩,
      ⟨some 12, .fad (.t 3) 1, none⟩,
      ⟨some 13, .ld false 1 (.t 12), none⟩,
      ⟨some 14, .bin .neq (.t 11) (.t 13), none⟩] none)
    (.cond (.t 14) (.seq (.reg [4] [] [
        ⟨some 4, .mv (.c (.v false (.bool false))), none⟩] none)
      (.ret))
     (.skip)))
   (.seq (.seq (.reg [2, 3, 19] [] [
       ⟨some 15, .fad (.t 2) 2, none⟩,
       ⟨some 16, .ld false 1 (.t 15), none⟩,
       ⟨some 17, .fad (.t 3) 2, none⟩,
       ⟨some 18, .ld false 1 (.t 17), none⟩,
       ⟨some 19, .bin .neq (.t 16) (.t 18), none⟩] none)
     (.cond (.t 19) (.seq (.reg [4] [] [
         ⟨some 4, .mv (.c (.v false (.bool false))), none⟩] none)
       (.ret))
      (.skip)))
    (.seq (.seq (.reg [2, 3, 24] [] [
        ⟨some 20, .fad (.t 2) 3, none⟩,
        ⟨some 21, .ld false 1 (.t 20), none⟩,
        ⟨some 22, .fad (.t 3) 3, none⟩,
        ⟨some 23, .ld false 1 (.t 22), none⟩,
        ⟨some 24, .bin .neq (.t 21) (.t 23), none⟩] none)
      (.cond (.t 24) (.seq (.reg [4] [] [
          ⟨some 4, .mv (.c (.v false (.bool false))), none⟩] none)
        (.ret))
       (.skip)))
     (.seq (.seq (.reg [29] [] [
         ⟨some 25, .fad (.t 2) 4, none⟩,
         ⟨some 26, .ld false 1 (.t 25), none⟩,
         ⟨some 27, .fad (.t 3) 4, none⟩,
         ⟨some 28, .ld false 1 (.t 27), none⟩,
         ⟨some 29, .bin .neq (.t 26) (.t 28), none⟩] none)
       (.cond (.t 29) (.seq (.reg [4] [] [
           ⟨some 4, .mv (.c (.v false (.bool false))), none⟩] none)
         (.ret))
        (.skip)))
      (.seq (.reg [4] [] [
         ⟨some 4, .mv (.c (.v false (.bool true))), none⟩] none)
       (.ret)))))))

def pf156 : PF := ⟨[.s 4], [], pb156⟩

-- loop.example/g00496/laws.eqRefS
def pl157_0 : PC :=
.seq (.seq (.reg [0, 1, 5, 14] [] [
          ⟨some 11, .mv (.t 5), none⟩,
          ⟨some 12, .mv (.t 0), none⟩,
          ⟨some 13, .len (.t 12), none⟩,
          ⟨some 14, .bin .lss (.t 11) (.t 13), none⟩] none)
        (.cond (.t 14) (.skip)
         (.exit 0)))
       (.seq (.blk 1 (.seq (.reg [0, 1, 5, 26] [] [
            ⟨some 17, .mv (.t 0), none⟩,
            ⟨some 18, .mv (.t 5), none⟩,
            ⟨some 19, .iad 5 (.t 17) (.t 18), none⟩,
            ⟨some 20, .ld true 5 (.t 19), none⟩,
            ⟨some 21, .mv (.t 1), none⟩,
            ⟨some 22, .mv (.t 5), none⟩,
            ⟨some 23, .iad 5 (.t 21) (.t 22), none⟩,
            ⟨some 24, .ld true 5 (.t 23), none⟩,
            ⟨some 25, .call 156 [] [(.t 20), (.t 24)], none⟩,
            ⟨some 26, .un .not (.t 25), none⟩] (some []))
          (.cond (.t 26) (.seq (.reg [4] [] [
              ⟨some 4, .mv (.c (.v false (.bool false))), none⟩] none)
            (.ret))
           (.skip))))
        (.reg [0, 1, 5] [] [
          ⟨some 15, .mv (.t 5), none⟩,
          ⟨some 16, .bin .add (.t 15) (.c (.v false (.int .i64 1))), none⟩,
          ⟨some 5, .mv (.t 16), none⟩] none))

def pb157 : PC :=
.seq (.reg [0, 1] [] [
   ⟨some 4, .mv (.c (.v false (.bool false))), none⟩] none)
 (.seq (.seq (.reg [0, 1, 10] [] [
     ⟨some 6, .mv (.t 0), none⟩,
     ⟨some 7, .len (.t 6), none⟩,
     ⟨some 8, .mv (.t 1), none⟩,
     ⟨some 9, .len (.t 8), none⟩,
     ⟨some 10, .bin .neq (.t 7) (.t 9), none⟩] none)
   (.cond (.t 10) (.seq (.reg [4] [] [
       ⟨some 4, .mv (.c (.v false (.bool false))), none⟩] none)
     (.ret))
    (.skip)))
  (.seq (.seq (.reg [0, 1, 5] [] [
      ⟨some 5, .mv (.c (.v false (.int .i64 0))), none⟩] none)
    (.blk 0 (.loop pl157_0)))
   (.seq (.reg [4] [] [
      ⟨some 4, .mv (.c (.v false (.bool true))), none⟩] none)
    (.ret))))

def pf157 : PF := ⟨[.s 4], [], pb157⟩

-- loop.example/g00496/laws.eqResult
def pb158 : PC :=
.seq (.reg [2, 3] [] [
   ⟨some 2, .box 6 (.t 0), none⟩,
   ⟨some 3, .box 6 (.t 1), none⟩,
   ⟨some 4, .mv (.c (.v false (.bool false))), none⟩] none)
 (.seq (.seq (.reg [2, 3, 10] [] [
     ⟨some 5, .fad (.t 2) 0, none⟩,
     ⟨some 6, .ld false 1 (.t 5), none⟩,
     ⟨some 7, .fad (.t 3) 0, none⟩,
     ⟨some 8, .ld false 1 (.t 7), none⟩,
     ⟨some 9, .call 160 [] [(.t 6), (.t 8)], none⟩,
     ⟨some 10, .un .not (.t 9), none⟩] none)
   (.cond (.t 10) (.seq (.reg [4] [] [
       ⟨some 4, .mv (.c (.v false (.bool false))), none⟩] none)
     (.ret))
    (.skip)))
  (.seq (.seq (.reg [2, 3, 15] [] [
      ⟨some 11, .fad (.t 2) 1, none⟩,
      ⟨some 12, .ld false 1 (.t 11), none⟩,
      ⟨some 13, .fad (.t 3) 1, none⟩,
      ⟨some 14, .ld false 1 (.t 13), none⟩,
      ⟨some 15, .bin .neq (.t 12) (.t 14), none⟩] none)
    (.cond (.t 15) (.seq (.reg [4] [] [
        ⟨some 4, .mv (.c (.v false (.bool false))), none⟩] none)
      (.ret))
     (.skip)))
   (.seq (.seq (.reg [2, 3, 20] [] [
       ⟨some 16, .fad (.t 2) 2, none⟩,
       ⟨some 17, .ld false 1 (.t 16), none⟩,
       ⟨some 18, .fad (.t 3) 2, none⟩,
       ⟨some 19, .ld false 1 (.t 18), none⟩,
       ⟨some 20, .eqb true (.t 17) (.t 19), none⟩] none)
     (.cond (.t 20) (.seq (.reg [4] [] [
         ⟨some 4, .mv (.c (.v false (.bool false))), none⟩] none)
       (.ret))
      (.skip)))
    (.seq (.seq (.reg [26] [] [
        ⟨some 21, .fad (.t 2) 3, none⟩,
        ⟨some 22, .ld true 3 (.t 21), none⟩,
        ⟨some 23, .fad (.t 3) 3, none⟩,
        ⟨some 24, .ld true 3 (.t 23), none⟩,
        ⟨some 25, .call 165 [] [(.t 22), (.t 24)], none⟩,
        ⟨some 26, .un .not (.t 25), none⟩] none)
      (.cond (.t 26) (.seq (.reg [4] [] [
          ⟨some 4, .mv (.c (.v false (.bool false))), none⟩] none)
        (.ret))
       (.skip)))
     (.seq (.reg [4] [] [
        ⟨some 4, .mv (.c (.v false (.bool true))), none⟩] none)
      (.ret))))))

def pf158 : PF := ⟨[.s 4], [], pb158⟩

-- loop.example/g00496/laws.eqRow
def pb159 : PC :=
.seq (.reg [2, 3] [] [
   ⟨some 2, .box 2 (.t 0), none⟩,
   ⟨some 3, .box 2 (.t 1), none⟩,
   ⟨some 4, .mv (.c (.v false (.bool false))), none⟩] none)
 (.seq (.seq (.reg [2, 3, 9] [] [
     ⟨some 5, .fad (.t 2) 0, none⟩,
     ⟨some 6, .ld false 1 (.t 5), none⟩,
     ⟨some 7, .fad (.t 3) 0, none⟩,
     ⟨some 8, .ld false 1 (.t 7), none⟩,
     ⟨some 9, .bin .neq (.t 6) (.t 8), none⟩] none)
   (.cond (.t 9) (.seq (.reg [4] [] [
       ⟨some 4, .mv (.c (.v false (.bool false))), none⟩] none)
     (.ret))
    (.skip)))
  (.seq (.seq (.reg [15] [] [
      ⟨some 10, .fad (.t 2) 1, none⟩,
      ⟨some 11, .ld false 1 (.t 10), none⟩,
      ⟨some 12, .fad (.t 3) 1, none⟩,
      ⟨some 13, .ld false 1 (.t 12), none⟩,
      ⟨some 14, .call 166 [] [(.t 11), (.t 13)], none⟩,
      ⟨some 15, .un .not (.t 14), none⟩] none)
    (.cond (.t 15) (.seq (.reg [4] [] [
        ⟨some 4, .mv (.c (.v false (.bool false))), none⟩] none)
      (.ret))
     (.skip)))
   (.seq (.reg [4] [] [
      ⟨some 4, .mv (.c (.v false (.bool true))), none⟩] none)
    (.ret))))

def pf159 : PF := ⟨[.s 4], [], pb159⟩

-- loop.example/g00496/laws.eqRowS
def pl160_0 : PC :=
.seq (.seq (.reg [0, 1, 5, 14] [] [
          ⟨some 11, .mv (.t 5), none⟩,
          ⟨some 12, .mv (.t 0), none⟩,
          ⟨some 13, .len (.t 12), none⟩,
          ⟨some 14, .bin .lss (.t 11) (.t 13), none⟩] none)
        (.cond (.t 14) (.skip)
         (.exit 0)))
       (.seq (.blk 1 (.seq (.reg [0, 1, 5, 26] [] [
            ⟨some 17, .mv (.t 0), none⟩,
            ⟨some 18, .mv (.t 5), none⟩,
            ⟨some 19, .iad 2 (.t 17) (.t 18), none⟩,
            ⟨some 20, .ld true 2 (.t 19), none⟩,
            ⟨some 21, .mv (.t 1), none⟩,
            ⟨some 22, .mv (.t 5), none⟩,
            ⟨some 23, .iad 2 (.t 21) (.t 22), none⟩,
            ⟨some 24, .ld true 2 (.t 23), none⟩,
            ⟨some 25, .call 159 [] [(.t 20), (.t 24)], none⟩,
            ⟨some 26, .un .not (.t 25), none⟩] (some []))
          (.cond (.t 26) (.seq (.reg [4] [] [
              ⟨some 4, .mv (.c (.v false (.bool false))), none⟩] none)
            (.ret))
           (.skip))))
        (.reg [0, 1, 5] [] [
          ⟨some 15, .mv (.t 5), none⟩,
          ⟨some 16, .bin .add (.t 15) (.c (.v false (.int .i64 1))), none⟩,
          ⟨some 5, .mv (.t 16), none⟩] none))

def pb160 : PC :=
.seq (.reg [0, 1] [] [
   ⟨some 4, .mv (.c (.v false (.bool false))), none⟩] none)
 (.seq (.seq (.reg [0, 1, 10] [] [
     ⟨some 6, .mv (.t 0), none⟩,
     ⟨some 7, .len (.t 6), none⟩,
     ⟨some 8, .mv (.t 1), none⟩,
     ⟨some 9, .len (.t 8), none⟩,
     ⟨some 10, .bin .neq (.t 7) (.t 9), none⟩] none)
   (.cond (.t 10) (.seq (.reg [4] [] [
       ⟨some 4, .mv (.c (.v false (.bool false))), none⟩] none)
     (.ret))
    (.skip)))
  (.seq (.seq (.reg [0, 1, 5] [] [
      ⟨some 5, .mv (.c (.v false (.int .i64 0))), none⟩] none)
    (.blk 0 (.loop pl160_0)))
   (.seq (.reg [4] [] [
      ⟨some 4, .mv (.c (.v false (.bool true))), none⟩] none)
    (.ret))))

def pf160 : PF := ⟨[.s 4], [], pb160⟩

-- loop.example/g00496/laws.eqSlot
def pb161 : PC :=
.seq (.reg [2, 3] [] [
   ⟨some 2, .box 2 (.t 0), none⟩,
   ⟨some 3, .box 2 (.t 1), none⟩,
   ⟨some 4, .mv (.c (.v false (.bool false))), none⟩] none)
 (.seq (.seq (.reg [2, 3, 9] [] [
     ⟨some 5, .fad (.t 2) 0, none⟩,
     ⟨some 6, .ld false 1 (.t 5), none⟩,
     ⟨some 7, .fad (.t 3) 0, none⟩,
     ⟨some 8, .ld false 1 (.t 7), none⟩,
     ⟨some 9, .bin .neq (.t 6) (.t 8), none⟩] none)
   (.cond (.t 9) (.seq (.reg [4] [] [
       ⟨some 4, .mv (.c (.v false (.bool false))), none⟩] none)
     (.ret))
    (.skip)))
  (.seq (.seq (.reg [15] [] [
      ⟨some 10, .fad (.t 2) 1, none⟩,
      ⟨some 11, .ld false 1 (.t 10), none⟩,
      ⟨some 12, .fad (.t 3) 1, none⟩,
      ⟨some 13, .ld false 1 (.t 12), none⟩,
      ⟨some 14, .call 166 [] [(.t 11), (.t 13)], none⟩,
      ⟨some 15, .un .not (.t 14), none⟩] none)
    (.cond (.t 15) (.seq (.reg [4] [] [
        ⟨some 4, .mv (.c (.v false (.bool false))), none⟩] none)
      (.ret))
     (.skip)))
   (.seq (.reg [4] [] [
      ⟨some 4, .mv (.c (.v false (.bool true))), none⟩] none)
    (.ret))))

def pf161 : PF := ⟨[.s 4], [], pb161⟩

-- loop.example/g00496/laws.eqSlotS
def pl162_0 : PC :=
.seq (.seq (.reg [0, 1, 5, 14] [] [
          ⟨some 11, .mv (.t 5), none⟩,
          ⟨some 12, .mv (.t 0), none⟩,
          ⟨some 13, .len (.t 12), none⟩,
          ⟨some 14, .bin .lss (.t 11) (.t 13), none⟩] none)
        (.cond (.t 14) (.skip)
         (.exit 0)))
       (.seq (.blk 1 (.seq (.reg [0, 1, 5, 26] [] [
            ⟨some 17, .mv (.t 0), none⟩,
            ⟨some 18, .mv (.t 5), none⟩,
            ⟨some 19, .iad 2 (.t 17) (.t 18), none⟩,
            ⟨some 20, .ld true 2 (.t 19), none⟩,
            ⟨some 21, .mv (.t 1), none⟩,
            ⟨some 22, .mv (.t 5), none⟩,
            ⟨some 23, .iad 2 (.t 21) (.t 22), none⟩,
            ⟨some 24, .ld true 2 (.t 23), none⟩,
            ⟨some 25, .call 161 [] [(.t 20), (.t 24)], none⟩,
            ⟨some 26, .un .not (.t 25), none⟩] (some []))
          (.cond (.t 26) (.seq (.reg [4] [] [
              ⟨some 4, .mv (.c (.v false (.bool false))), none⟩] none)
            (.ret))
           (.skip))))
        (.reg [0, 1, 5] [] [
          ⟨some 15, .mv (.t 5), none⟩,
          ⟨some 16, .bin .add (.t 15) (.c (.v false (.int .i64 1))), none⟩,
          ⟨some 5, .mv (.t 16), none⟩] none))

def pb162 : PC :=
.seq (.reg [0, 1] [] [
   ⟨some 4, .mv (.c (.v false (.bool false))), none⟩] none)
 (.seq (.seq (.reg [0, 1, 10] [] [
     ⟨some 6, .mv (.t 0), none⟩,
     ⟨some 7, .len (.t 6), none⟩,
     ⟨some 8, .mv (.t 1), none⟩,
     ⟨some 9, .len (.t 8), none⟩,
     ⟨some 10, .bin .neq (.t 7) (.t 9), none⟩] none)
   (.cond (.t 10) (.seq (.reg [4] [] [
       ⟨some 4, .mv (.c (.v false (.bool false))), none⟩] none)
     (.ret))
    (.skip)))
  (.seq (.seq (.reg [0, 1, 5] [] [
      ⟨some 5, .mv (.c (.v false (.int .i64 0))), none⟩] none)
    (.blk 0 (.loop pl162_0)))
   (.seq (.reg [4] [] [
      ⟨some 4, .mv (.c (.v false (.bool true))), none⟩] none)
    (.ret))))

def pf162 : PF := ⟨[.s 4], [], pb162⟩

-- loop.example/g00496/laws.eqTask
def pb163 : PC :=
.seq (.reg [2, 3] [] [
   ⟨some 2, .box 25 (.t 0), none⟩,
   ⟨some 3, .box 25 (.t 1), none⟩,
   ⟨some 4, .mv (.c (.v false (.bool false))), none⟩] none)
 (.seq (.seq (.reg [2, 3, 9] [] [
     ⟨some 5, .fad (.t 2) 0, none⟩,
     ⟨some 6, .ld false 1 (.t 5), none⟩,
     ⟨some 7, .fad (.t 3) 0, none⟩,
     ⟨some 8, .ld false 1 (.t 7), none⟩,
     ⟨some 9, .bin .neq (.t 6) (.t 8), none⟩] none)
   (.cond (.t 9) (.seq (.reg [4] [] [
       ⟨some 4, .mv (.c (.v false (.bool false))), none⟩] none)
     (.ret))
    (.skip)))
  (.seq (.seq (.reg [2, 3, 14] [] [
      ⟨some 10, .fad (.t 2) 1, none⟩,
      ⟨some 11, .ld false 1 (.t 10), none⟩,
      ⟨some 12, .fad (.t 3) 1, none⟩,
      ⟨some 13, .ld false 1 (.t 12), none⟩,
      ⟨some 14, .bin .neq (.t 11) (.t 13), none⟩] none)
    (.cond (.t 14) (.seq (.reg [4] [] [
        ⟨some 4, .mv (.c (.v false (.bool false))), none⟩] none)
      (.ret))
     (.skip)))
   (.seq (.seq (.reg [2, 3, 19] [] [
       ⟨some 15, .fad (.t 2) 2, none⟩,
       ⟨some 16, .ld false 1 (.t 15), none⟩,
       ⟨some 17, .fad (.t 3) 2, none⟩,
       ⟨some 18, .ld false 1 (.t 17), none⟩,
       ⟨some 19, .bin .neq (.t 16) (.t 18), none⟩] none)
     (.cond (.t 19) (.seq (.reg [4] [] [
         ⟨some 4, .mv (.c (.v false (.bool false))), none⟩] none)
       (.ret))
      (.skip)))
    (.seq (.seq (.reg [2, 3, 25] [] [
        ⟨some 20, .fad (.t 2) 3, none⟩,
        ⟨some 21, .ld false 1 (.t 20), none⟩,
        ⟨some 22, .fad (.t 3) 3, none⟩,
        ⟨some 23, .ld false 1 (.t 22), none⟩,
        ⟨some 24, .call 166 [] [(.t 21), (.t 23)], none⟩,
        ⟨some 25, .un .not (.t 24), none⟩] none)
      (.cond (.t 25) (.seq (.reg [4] [] [
          ⟨some 4, .mv (.c (.v false (.bool false))), none⟩] none)
        (.ret))
       (.skip)))
     (.seq (.seq (.reg [2, 3, 30] [] [
         ⟨some 26, .fad (.t 2) 4, none⟩,
         ⟨some 27, .ld false 1 (.t 26), none⟩,
         ⟨some 28, .fad (.t 3) 4, none⟩,
         ⟨some 29, .ld false 1 (.t 28), none⟩,
         ⟨some 30, .bin .neq (.t 27) (.t 29), none⟩] none)
       (.cond (.t 30) (.seq (.reg [4] [] [
           ⟨some 4, .mv (.c (.v false (.bool false))), none⟩] none)
         (.ret))
        (.skip)))
      (.seq (.seq (.reg [2, 3, 36] [] [
          ⟨some 31, .fad (.t 2) 5, none⟩,
          ⟨some 32, .ld true 10 (.t 31), none⟩,
          ⟨some 33, .fad (.t 3) 5, none⟩,
          ⟨some 34, .ld true 10 (.t 33), none⟩,
          ⟨some 35, .call 155 [] [(.t 32), (.t 34)], none⟩,
          ⟨some 36, .un .not (.t 35), none⟩] none)
        (.cond (.t 36) (.seq (.reg [4] [] [
            ⟨some 4, .mv (.c (.v false (.bool false))), none⟩] none)
          (.ret))
         (.skip)))
       (.seq (.seq (.reg [2, 3, 41] [] [
           ⟨some 37, .fad (.t 2) 15, none⟩,
           ⟨some 38, .ld false 1 (.t 37), none⟩,
           ⟨some 39, .fad (.t 3) 15, none⟩,
           ⟨some 40, .ld false 1 (.t 39), none⟩,
           ⟨some 41, .bin .neq (.t 38) (.t 40), none⟩] none)
         (.cond (.t 41) (.seq (.reg [4] [] [
             ⟨some 4, .mv (.c (.v false (.bool false))), none⟩] none)
           (.ret))
          (.skip)))
        (.seq (.seq (.reg [2, 3, 46] [] [
            ⟨some 42, .fad (.t 2) 16, none⟩,
            ⟨some 43, .ld false 1 (.t 42), none⟩,
            ⟨some 44, .fad (.t 3) 16, none⟩,
            ⟨some 45, .ld false 1 (.t 44), none⟩,
            ⟨some 46, .bin .neq (.t 43) (.t 45), none⟩] none)
          (.cond (.t 46) (.seq (.reg [4] [] [
              ⟨some 4, .mv (.c (.v false (.bool false))), none⟩] none)
            (.ret))
           (.skip)))
         (.seq (.seq (.reg [2, 3, 52] [] [
             ⟨some 47, .fad (.t 2) 17, none⟩,
             ⟨some 48, .ld false 1 (.t 47), none⟩,
             ⟨some 49, .fad (.t 3) 17, none⟩,
             ⟨some 50, .ld false 1 (.t 49), none⟩,
             ⟨some 51, .call 157 [] [(.t 48), (.t 50)], none⟩,
             ⟨some 52, .un .not (.t 51), none⟩] none)
           (.cond (.t 52) (.seq (.reg [4] [] [
               ⟨some 4, .mv (.c (.v false (.bool false))), none⟩] none)
             (.ret))
            (.skip)))
          (.seq (.seq (.reg [2, 3, 57] [] [
              ⟨some 53, .fad (.t 2) 18, none⟩,
              ⟨some 54, .ld false 1 (.t 53), none⟩,
              ⟨some 55, .fad (.t 3) 18, none⟩,
              ⟨some 56, .ld false 1 (.t 55), none⟩,
              ⟨some 57, .bin .neq (.t 54) (.t 56), none⟩] none)
            (.cond (.t 57) (.seq (.reg [4] [] [
                ⟨some 4, .mv (.c (.v false (.bool false))), none⟩] none)
              (.ret))
             (.skip)))
           (.seq (.seq (.reg [2, 3, 62] [] [
               ⟨some 58, .fad (.t 2) 19, none⟩,
               ⟨some 59, .ld false 1 (.t 58), none⟩,
               ⟨some 60, .fad (.t 3) 19, none⟩,
               ⟨some 61, .ld false 1 (.t 60), none⟩,
               ⟨some 62, .bin .neq (.t 59) (.t 61), none⟩] none)
             (.cond (.t 62) (.seq (.reg [4] [] [
                 ⟨some 4, .mv (.c (.v false (.bool false))), none⟩] none)
               (.ret))
              (.skip)))
            (.seq (.seq (.reg [2, 3, 67] [] [
                ⟨some 63, .fad (.t 2) 20, none⟩,
                ⟨some 64, .ld false 1 (.t 63), none⟩,
                ⟨some 65, .fad (.t 3) 20, none⟩,
                ⟨some 66, .ld false 1 (.t 65), none⟩,
                ⟨some 67, .bin .neq (.t 64) (.t 66), none⟩] none)
              (.cond (.t 67) (.seq (.reg [4] [] [
                  ⟨some 4, .mv (.c (.v false (.bool false))), none⟩] none)
                (.ret))
               (.skip)))
             (.seq (.seq (.reg [2, 3, 72] [] [
                 ⟨some 68, .fad (.t 2) 21, none⟩,
                 ⟨some 69, .ld false 1 (.t 68), none⟩,
                 ⟨some 70, .fad (.t 3) 21, none⟩,
                 ⟨some 71, .ld false 1 (.t 70), none⟩,
                 ⟨some 72, .bin .neq (.t 69) (.t 71), none⟩] none)
               (.cond (.t 72) (.seq (.reg [4] [] [
                   ⟨some 4, .mv (.c (.v false (.bool false))), none⟩] none)
                 (.ret))
                (.skip)))
              (.seq (.seq (.reg [2, 3, 77] [] [
                  ⟨some 73, .fad (.t 2) 22, none⟩,
                  ⟨some 74, .ld false 1 (.t 73), none⟩,
                  ⟨some 75, .fad (.t 3) 22, none⟩,
                  ⟨some 76, .ld false 1 (.t 75), none⟩,
                  ⟨some 77, .bin .neq (.t 74) (.t 76), none⟩] none)
                (.cond (.t 77) (.seq (.reg [4] [] [
                    ⟨some 4, .mv (.c (.v false (.bool false))), none⟩] none)
                  (.ret))
                 (.skip)))
               (.seq (.seq (.reg [2, 3, 82] [] [
                   ⟨some 78, .fad (.t 2) 23, none⟩,
                   ⟨some 79, .ld false 1 (.t 78), none⟩,
                   ⟨some 80, .fad (.t 3) 23, none⟩,
                   ⟨some 81, .ld false 1 (.t 80), none⟩,
                   ⟨some 82, .eqb true (.t 79) (.t 81), none⟩] none)
                 (.cond (.t 82) (.seq (.reg [4] [] [
                     ⟨some 4, .mv (.c (.v false (.bool false))), none⟩] none)
                   (.ret))
                  (.skip)))
                (.seq (.seq (.reg [88] [] [
                    ⟨some 83, .fad (.t 2) 24, none⟩,
                    ⟨some 84, .ld false 1 (.t 83), none⟩,
                    ⟨some 85, .fad (.t 3) 24, none⟩,
                    ⟨some 86, .ld false 1 (.t 85), none⟩,
                    ⟨some 87, .call 160 [] [(.t 84), (.t 86)], none⟩,
                    ⟨some 88, .un .not (.t 87), none⟩] none)
                  (.cond (.t 88) (.seq (.reg [4] [] [
                      ⟨some 4, .mv (.c (.v false (.bool false))), none⟩] none)
                    (.ret))
                   (.skip)))
                 (.seq (.reg [4] [] [
                    ⟨some 4, .mv (.c (.v false (.bool true))), none⟩] none)
                  (.ret))))))))))))))))))

def pf163 : PF := ⟨[.s 4], [], pb163⟩

-- loop.example/g00496/laws.eqTaskS
def pl164_0 : PC :=
.seq (.seq (.reg [0, 1, 5, 14] [] [
          ⟨some 11, .mv (.t 5), none⟩,
          ⟨some 12, .mv (.t 0), none⟩,
          ⟨some 13, .len (.t 12), none⟩,
          ⟨some 14, .bin .lss (.t 11) (.t 13), none⟩] none)
        (.cond (.t 14) (.skip)
         (.exit 0)))
       (.seq (.blk 1 (.seq (.reg [0, 1, 5, 26] [] [
            ⟨some 17, .mv (.t 0), none⟩,
            ⟨some 18, .mv (.t 5), none⟩,
            ⟨some 19, .iad 25 (.t 17) (.t 18), none⟩,
            ⟨some 20, .ld true 25 (.t 19), none⟩,
            ⟨some 21, .mv (.t 1), none⟩,
            ⟨some 22, .mv (.t 5), none⟩,
            ⟨some 23, .iad 25 (.t 21) (.t 22), none⟩,
            ⟨some 24, .ld true 25 (.t 23), none⟩,
            ⟨some 25, .call 163 [] [(.t 20), (.t 24)], none⟩,
            ⟨some 26, .un .not (.t 25), none⟩] (some []))
          (.cond (.t 26) (.seq (.reg [4] [] [
              ⟨some 4, .mv (.c (.v false (.bool false))), none⟩] none)
            (.ret))
           (.skip))))
        (.reg [0, 1, 5] [] [
          ⟨some 15, .mv (.t 5), none⟩,
          ⟨some 16, .bin .add (.t 15) (.c (.v false (.int .i64 1))), none⟩,
          ⟨some 5, .mv (.t 16), none⟩] none))

def pb164 : PC :=
.seq (.reg [0, 1] [] [
   ⟨some 4, .mv (.c (.v false (.bool false))), none⟩] none)
 (.seq (.seq (.reg [0, 1, 10] [] [
     ⟨some 6, .mv (.t 0), none⟩,
     ⟨some 7, .len (.t 6), none⟩,
     ⟨some 8, .mv (.t 1), none⟩,
     ⟨some 9, .len (.t 8), none⟩,
     ⟨some 10, .bin .neq (.t 7) (.t 9), none⟩] none)
   (.cond (.t 10) (.seq (.reg [4] [] [
       ⟨some 4, .mv (.c (.v false (.bool false))), none⟩] none)
     (.ret))
    (.skip)))
  (.seq (.seq (.reg [0, 1, 5] [] [
      ⟨some 5, .mv (.c (.v false (.int .i64 0))), none⟩] none)
    (.blk 0 (.loop pl164_0)))
   (.seq (.reg [4] [] [
      ⟨some 4, .mv (.c (.v false (.bool true))), none⟩] none)
    (.ret))))

def pf164 : PF := ⟨[.s 4], [], pb164⟩

-- loop.example/g00496/laws.eqVal
def pb165 : PC :=
.seq (.reg [2, 3] [] [
   ⟨some 2, .box 3 (.t 0), none⟩,
   ⟨some 3, .box 3 (.t 1), none⟩,
   ⟨some 4, .mv (.c (.v false (.bool false))), none⟩] none)
 (.seq (.seq (.reg [2, 3, 9] [] [
     ⟨some 5, .fad (.t 2) 0, none⟩,
     ⟨some 6, .ld false 1 (.t 5), none⟩,
     ⟨some 7, .fad (.t 3) 0, none⟩,
     ⟨some 8, .ld false 1 (.t 7), none⟩,
     ⟨some 9, .bin .neq (.t 6) (.t 8), none⟩] none)
   (.cond (.t 9) (.seq (.reg [4] [] [
       ⟨some 4, .mv (.c (.v false (.bool false))), none⟩] none)
     (.ret))
    (.skip)))
  (.seq (.seq (.reg [2, 3, 14] [] [
      ⟨some 10, .fad (.t 2) 1, none⟩,
      ⟨some 11, .ld false 1 (.t 10), none⟩,
      ⟨some 12, .fad (.t 3) 1, none⟩,
      ⟨some 13, .ld false 1 (.t 12), none⟩,
      ⟨some 14, .bin .neq (.t 11) (.t 13), none⟩] none)
    (.cond (.t 14) (.seq (.reg [4] [] [
        ⟨some 4, .mv (.c (.v false (.bool false))), none⟩] none)
      (.ret))
     (.skip)))
   (.seq (.seq (.reg [19] [] [
       ⟨some 15, .fad (.t 2) 2, none⟩,
       ⟨some 16, .ld false 1 (.t 15), none⟩,
       ⟨some 17, .fad (.t 3) 2, none⟩,
       ⟨some 18, .ld false 1 (.t 17), none⟩,
       ⟨some 19, .bin .neq (.t 16) (.t 18), none⟩] none)
     (.cond (.t 19) (.seq (.reg [4] [] [
         ⟨some 4, .mv (.c (.v false (.bool false))), none⟩] none)
       (.ret))
      (.skip)))
    (.seq (.reg [4] [] [
       ⟨some 4, .mv (.c (.v false (.bool true))), none⟩] none)
     (.ret)))))

def pf165 : PF := ⟨[.s 4], [], pb165⟩

-- loop.example/g00496/laws.eqValS
def pl166_0 : PC :=
.seq (.seq (.reg [0, 1, 5, 14] [] [
          ⟨some 11, .mv (.t 5), none⟩,
          ⟨some 12, .mv (.t 0), none⟩,
          ⟨some 13, .len (.t 12), none⟩,
          ⟨some 14, .bin .lss (.t 11) (.t 13), none⟩] none)
        (.cond (.t 14) (.skip)
         (.exit 0)))
       (.seq (.blk 1 (.seq (.reg [0, 1, 5, 26] [] [
            ⟨some 17, .mv (.t 0), none⟩,
            ⟨some 18, .mv (.t 5), none⟩,
            ⟨some 19, .iad 3 (.t 17) (.t 18), none⟩,
            ⟨some 20, .ld true 3 (.t 19), none⟩,
            ⟨some 21, .mv (.t 1), none⟩,
            ⟨some 22, .mv (.t 5), none⟩,
            ⟨some 23, .iad 3 (.t 21) (.t 22), none⟩,
            ⟨some 24, .ld true 3 (.t 23), none⟩,
            ⟨some 25, .call 165 [] [(.t 20), (.t 24)], none⟩,
            ⟨some 26, .un .not (.t 25), none⟩] (some []))
          (.cond (.t 26) (.seq (.reg [4] [] [
              ⟨some 4, .mv (.c (.v false (.bool false))), none⟩] none)
            (.ret))
           (.skip))))
        (.reg [0, 1, 5] [] [
          ⟨some 15, .mv (.t 5), none⟩,
          ⟨some 16, .bin .add (.t 15) (.c (.v false (.int .i64 1))), none⟩,
          ⟨some 5, .mv (.t 16), none⟩] none))

def pb166 : PC :=
.seq (.reg [0, 1] [] [
   ⟨some 4, .mv (.c (.v false (.bool false))), none⟩] none)
 (.seq (.seq (.reg [0, 1, 10] [] [
     ⟨some 6, .mv (.t 0), none⟩,
     ⟨some 7, .len (.t 6), none⟩,
     ⟨some 8, .mv (.t 1), none⟩,
     ⟨some 9, .len (.t 8), none⟩,
     ⟨some 10, .bin .neq (.t 7) (.t 9), none⟩] none)
   (.cond (.t 10) (.seq (.reg [4] [] [
       ⟨some 4, .mv (.c (.v false (.bool false))), none⟩] none)
     (.ret))
    (.skip)))
  (.seq (.seq (.reg [0, 1, 5] [] [
      ⟨some 5, .mv (.c (.v false (.int .i64 0))), none⟩] none)
    (.blk 0 (.loop pl166_0)))
   (.seq (.reg [4] [] [
      ⟨some 4, .mv (.c (.v false (.bool true))), none⟩] none)
    (.ret))))

def pf166 : PF := ⟨[.s 4], [], pb166⟩

-- loop.example/g00496/laws.eqWorld
def pb167 : PC :=
.seq (.reg [2, 3] [] [
   ⟨some 2, .box 14 (.t 0), none⟩,
   ⟨some 3, .box 14 (.t 1), none⟩,
   ⟨some 4, .mv (.c (.v false (.bool false))), none⟩] none)
 (.seq (.seq (.reg [2, 3, 10] [] [
     ⟨some 5, .fad (.t 2) 0, none⟩,
     ⟨some 6, .ld true 3 (.t 5), none⟩,
     ⟨some 7, .fad (.t 3) 0, none⟩,
     ⟨some 8, .ld true 3 (.t 7), none⟩,
     ⟨some 9, .call 146 [] [(.t 6), (.t 8)], none⟩,
     ⟨some 10, .un .not (.t 9), none⟩] none)
   (.cond (.t 10) (.seq (.reg [4] [] [
       ⟨some 4, .mv (.c (.v false (.bool false))), none⟩] none)
     (.ret))
    (.skip)))
  (.seq (.seq (.reg [2, 3, 15] [] [
      ⟨some 11, .fad (.t 2) 3, none⟩,
      ⟨some 12, .ld false 1 (.t 11), none⟩,
      ⟨some 13, .fad (.t 3) 3, none⟩,
      ⟨some 14, .ld false 1 (.t 13), none⟩,
      ⟨some 15, .bin .neq (.t 12) (.t 14), none⟩] none)
    (.cond (.t 15) (.seq (.reg [4] [] [
        ⟨some 4, .mv (.c (.v false (.bool false))), none⟩] none)
      (.ret))
     (.skip)))
   (.seq (.seq (.reg [2, 3, 20] [] [
       ⟨some 16, .fad (.t 2) 4, none⟩,
       ⟨some 17, .ld false 1 (.t 16), none⟩,
       ⟨some 18, .fad (.t 3) 4, none⟩,
       ⟨some 19, .ld false 1 (.t 18), none⟩,
       ⟨some 20, .bin .neq (.t 17) (.t 19), none⟩] none)
     (.cond (.t 20) (.seq (.reg [4] [] [
         ⟨some 4, .mv (.c (.v false (.bool false))), none⟩] none)
       (.ret))
      (.skip)))
    (.seq (.seq (.reg [2, 3, 25] [] [
        ⟨some 21, .fad (.t 2) 5, none⟩,
        ⟨some 22, .ld false 1 (.t 21), none⟩,
        ⟨some 23, .fad (.t 3) 5, none⟩,
        ⟨some 24, .ld false 1 (.t 23), none⟩,
        ⟨some 25, .bin .neq (.t 22) (.t 24), none⟩] none)
      (.cond (.t 25) (.seq (.reg [4] [] [
          ⟨some 4, .mv (.c (.v false (.bool false))), none⟩] none)
        (.ret))
       (.skip)))
     (.seq (.seq (.reg [2, 3, 31] [] [
         ⟨some 26, .fad (.t 2) 6, none⟩,
         ⟨some 27, .ld true 2 (.t 26), none⟩,
         ⟨some 28, .fad (.t 3) 6, none⟩,
         ⟨some 29, .ld true 2 (.t 28), none⟩,
         ⟨some 30, .call 151 [] [(.t 27), (.t 29)], none⟩,
         ⟨some 31, .un .not (.t 30), none⟩] none)
       (.cond (.t 31) (.seq (.reg [4] [] [
           ⟨some 4, .mv (.c (.v false (.bool false))), none⟩] none)
         (.ret))
        (.skip)))
      (.seq (.seq (.reg [2, 3, 37] [] [
          ⟨some 32, .fad (.t 2) 8, none⟩,
          ⟨some 33, .ld false 1 (.t 32), none⟩,
          ⟨some 34, .fad (.t 3) 8, none⟩,
          ⟨some 35, .ld false 1 (.t 34), none⟩,
          ⟨some 36, .call 143 [] [(.t 33), (.t 35)], none⟩,
          ⟨some 37, .un .not (.t 36), none⟩] none)
        (.cond (.t 37) (.seq (.reg [4] [] [
            ⟨some 4, .mv (.c (.v false (.bool false))), none⟩] none)
          (.ret))
         (.skip)))
       (.seq (.seq (.reg [2, 3, 43] [] [
           ⟨some 38, .fad (.t 2) 9, none⟩,
           ⟨some 39, .ld false 1 (.t 38), none⟩,
           ⟨some 40, .fad (.t 3) 9, none⟩,
           ⟨some 41, .ld false 1 (.t 40), none⟩,
           ⟨some 42, .call 152 [] [(.t 39), (.t 41)], none⟩,
           ⟨some 43, .un .not (.t 42), none⟩] none)
         (.cond (.t 43) (.seq (.reg [4] [] [
             ⟨some 4, .mv (.c (.v false (.bool false))), none⟩] none)
           (.ret))
          (.skip)))
        (.seq (.seq (.reg [2, 3, 49] [] [
            ⟨some 44, .fad (.t 2) 10, none⟩,
            ⟨some 45, .ld false 1 (.t 44), none⟩,
            ⟨some 46, .fad (.t 3) 10, none⟩,
            ⟨some 47, .ld false 1 (.t 46), none⟩,
            ⟨some 48, .call 148 [] [(.t 45), (.t 47)], none⟩,
            ⟨some 49, .un .not (.t 48), none⟩] none)
          (.cond (.t 49) (.seq (.reg [4] [] [
              ⟨some 4, .mv (.c (.v false (.bool false))), none⟩] none)
            (.ret))
           (.skip)))
         (.seq (.seq (.reg [2, 3, 55] [] [
             ⟨some 50, .fad (.t 2) 11, none⟩,
             ⟨some 51, .ld false 1 (.t 50), none⟩,
             ⟨some 52, .fad (.t 3) 11, none⟩,
             ⟨some 53, .ld false 1 (.t 52), none⟩,
             ⟨some 54, .call 152 [] [(.t 51), (.t 53)], none⟩,
             ⟨some 55, .un .not (.t 54), none⟩] none)
           (.cond (.t 55) (.seq (.reg [4] [] [
               ⟨some 4, .mv (.c (.v false (.bool false))), none⟩] none)
             (.ret))
            (.skip)))
          (.seq (.seq (.reg [2, 3, 61] [] [
              ⟨some 56, .fad (.t 2) 12, none⟩,
              ⟨some 57, .ld false 1 (.t 56), none⟩,
              ⟨some 58, .fad (.t 3) 12, none⟩,
              ⟨some 59, .ld false 1 (.t 58), none⟩,
              ⟨some 60, .call 164 [] [(.t 57), (.t 59)], none⟩,
              ⟨some 61, .un .not (.t 60), none⟩] none)
            (.cond (.t 61) (.seq (.reg [4] [] [
                ⟨some 4, .mv (.c (.v false (.bool false))), none⟩] none)
              (.ret))
             (.skip)))
           (.seq (.seq (.reg [67] [] [
               ⟨some 62, .fad (.t 2) 13, none⟩,
               ⟨some 63, .ld false 1 (.t 62), none⟩,
               ⟨some 64, .fad (.t 3) 13, none⟩,
               ⟨some 65, .ld false 1 (.t 64), none⟩,
               ⟨some 66, .call 150 [] [(.t 63), (.t 65)], none⟩,
               ⟨some 67, .un .not (.t 66), none⟩] none)
             (.cond (.t 67) (.seq (.reg [4] [] [
                 ⟨some 4, .mv (.c (.v false (.bool false))), none⟩] none)
               (.ret))
              (.skip)))
            (.seq (.reg [4] [] [
               ⟨some 4, .mv (.c (.v false (.bool true))), none⟩] none)
             (.ret)))))))))))))

def pf167 : PF := ⟨[.s 4], [], pb167⟩

-- loop.example/g00496/laws.heldIntS
def pl175_0 : PC :=
.seq (.seq (.reg [0, 1, 5, 9] [] [
         ⟨some 6, .mv (.t 5), none⟩,
         ⟨some 7, .mv (.t 0), none⟩,
         ⟨some 8, .len (.t 7), none⟩,
         ⟨some 9, .bin .lss (.t 6) (.t 8), none⟩] none)
       (.cond (.t 9) (.skip)
        (.exit 0)))
      (.seq (.blk 1 (.seq (.seq (.reg [0, 1, 5, 17] [] [
            ⟨some 12, .mv (.t 0), none⟩,
            ⟨some 13, .mv (.t 5), none⟩,
            ⟨some 14, .iad 1 (.t 12) (.t 13), none⟩,
            ⟨some 15, .ld false 1 (.t 14), none⟩,
            ⟨some 16, .mv (.t 1), none⟩,
            ⟨some 17, .bin .neq (.t 15) (.t 16), none⟩] none)
          (.cond (.t 17) (.seq (.reg [4] [] [
              ⟨some 4, .mv (.c (.v false (.int .i64 (-1)))), none⟩] none)
            (.ret))
           (.skip)))
         (.reg [0, 1, 5] [] [
           ⟨some 18, .mv (.t 1), none⟩,
           ⟨some 19, .bin .add (.t 18) (.c (.v false (.int .i64 1))), none⟩,
           ⟨some 1, .mv (.t 19), none⟩] none)))
       (.reg [0, 1, 5] [] [
         ⟨some 10, .mv (.t 5), none⟩,
         ⟨some 11, .bin .add (.t 10) (.c (.v false (.int .i64 1))), none⟩,
         ⟨some 5, .mv (.t 11), none⟩] none))

def pb175 : PC :=
.seq (.reg [0, 1] [] [
   ⟨some 4, .mv (.c (.v false (.int .i64 0))), none⟩] none)
 (.seq (.seq (.reg [0, 1, 5] [] [
     ⟨some 5, .mv (.c (.v false (.int .i64 0))), none⟩] none)
   (.blk 0 (.loop pl175_0)))
  (.seq (.reg [4] [] [
     ⟨some 20, .mv (.t 1), none⟩,
     ⟨some 4, .mv (.t 20), none⟩] none)
   (.ret)))

def pf175 : PF := ⟨[.s 4], [], pb175⟩

-- loop.example/g00496/laws.markBufS
def pl183_0 : PC :=
.seq (.seq (.reg [0, 1, 5, 9] [] [
         ⟨some 6, .mv (.t 5), none⟩,
         ⟨some 7, .mv (.t 0), none⟩,
         ⟨some 8, .len (.t 7), none⟩,
         ⟨some 9, .bin .lss (.t 6) (.t 8), none⟩] none)
       (.cond (.t 9) (.skip)
        (.exit 0)))
      (.seq (.blk 1 (.seq (.reg [0, 1, 5] [] [
           ⟨some 12, .mv (.t 0), none⟩,
           ⟨some 13, .mv (.t 5), none⟩,
           ⟨some 14, .mv (.t 1), none⟩,
           ⟨some 15, .iad 5 (.t 12) (.t 13), none⟩,
           ⟨some 16, .fad (.t 15) 0, none⟩,
           ⟨none, .st 1 (.t 16) (.t 14), none⟩] none)
         (.seq (.reg [0, 1, 5] [] [
            ⟨some 17, .mv (.t 1), none⟩,
            ⟨some 18, .bin .add (.t 17) (.c (.v false (.int .i64 1))), none⟩,
            ⟨some 1, .mv (.t 18), none⟩] none)
          (.seq (.reg [0, 1, 5] [] [
             ⟨some 19, .mv (.t 0), none⟩,
             ⟨some 20, .mv (.t 5), none⟩,
             ⟨some 21, .mv (.t 1), none⟩,
             ⟨some 22, .iad 5 (.t 19) (.t 20), none⟩,
             ⟨some 23, .fad (.t 22) 1, none⟩,
             ⟨none, .st 1 (.t 23) (.t 21), none⟩] none)
           (.seq (.reg [0, 1, 5] [] [
              ⟨some 24, .mv (.t 1), none⟩,
              ⟨some 25, .bin .add (.t 24) (.c (.v false (.int .i64 1))), none⟩,
              ⟨some 1, .mv (.t 25), none⟩] none)
            (.seq (.reg [0, 1, 5] [] [
               ⟨some 26, .mv (.t 0), none⟩,
               ⟨some 27, .mv (.t 5), none⟩,
               ⟨some 28, .mv (.t 1), none⟩,
               ⟨some 29, .iad 5 (.t 26) (.t 27), none⟩,
               ⟨some 30, .fad (.t 29) 2, none⟩,
               ⟨some 31, .fad (.t 30) 0, none⟩,
               ⟨none, .st 1 (.t 31) (.t 28), none⟩] none)
             (.seq (.reg [0, 1, 5] [] [
                ⟨some 32, .mv (.t 1), none⟩,
                ⟨some 33, .bin .add (.t 32) (.c (.v false (.int .i64 1))), none⟩,
                ⟨some 1, .mv (.t 33), none⟩] none)
              (.seq (.reg [0, 1, 5] [(41, 1)] [
                 ⟨some 34, .mv (.t 0), none⟩,
                 ⟨some 35, .mv (.t 5), none⟩,
                 ⟨some 36, .iad 5 (.t 34) (.t 35), none⟩,
                 ⟨some 37, .fad (.t 36) 2, none⟩,
                 ⟨some 38, .fad (.t 37) 1, none⟩,
                 ⟨some 39, .ld false 1 (.t 38), none⟩,
                 ⟨some 40, .mv (.t 1), none⟩,
                 ⟨some 41, .call 194 [0] [(.t 39), (.t 40)], none⟩,
                 ⟨some 1, .mv (.t 41), none⟩] none)
               (.reg [0, 1, 5] [(48, 1)] [
                 ⟨some 42, .mv (.t 0), none⟩,
                 ⟨some 43, .mv (.t 5), none⟩,
                 ⟨some 44, .iad 5 (.t 42) (.t 43), none⟩,
                 ⟨some 45, .fad (.t 44) 4, none⟩,
                 ⟨some 46, .ld false 1 (.t 45), none⟩,
                 ⟨some 47, .mv (.t 1), none⟩,
                 ⟨some 48, .call 184 [0] [(.t 46), (.t 47)], none⟩,
                 ⟨some 1, .mv (.t 48), none⟩] none)))))))))
       (.reg [0, 1, 5] [] [
         ⟨some 10, .mv (.t 5), none⟩,
         ⟨some 11, .bin .add (.t 10) (.c (.v false (.int .i64 1))), none⟩,
         ⟨some 5, .mv (.t 11), none⟩] none))

def pb183 : PC :=
.seq (.reg [0, 1] [] [
   ⟨some 4, .mv (.c (.v false (.int .i64 0))), none⟩] none)
 (.seq (.seq (.reg [0, 1, 5] [] [
     ⟨some 5, .mv (.c (.v false (.int .i64 0))), none⟩] none)
   (.blk 0 (.loop pl183_0)))
  (.seq (.reg [0, 1, 4] [] [
     ⟨some 49, .mv (.t 1), none⟩,
     ⟨some 4, .mv (.t 49), none⟩] none)
   (.ret)))

def pf183 : PF := ⟨[.s 4], [0], pb183⟩

-- loop.example/g00496/laws.markByteS
def pl184_0 : PC :=
.seq (.seq (.reg [0, 1, 5, 9] [] [
         ⟨some 6, .mv (.t 5), none⟩,
         ⟨some 7, .mv (.t 0), none⟩,
         ⟨some 8, .len (.t 7), none⟩,
         ⟨some 9, .bin .lss (.t 6) (.t 8), none⟩] none)
       (.cond (.t 9) (.skip)
        (.exit 0)))
      (.seq (.blk 1 (.seq (.reg [0, 1, 5] [] [
           ⟨some 12, .mv (.t 0), none⟩,
           ⟨some 13, .mv (.t 5), none⟩,
           ⟨some 14, .mv (.t 1), none⟩,
           ⟨some 15, .cvi .u8 (.t 14), none⟩,
           ⟨some 16, .iad 1 (.t 12) (.t 13), none⟩,
           ⟨none, .st 1 (.t 16) (.t 15), none⟩] none)
         (.reg [0, 1, 5] [] [
           ⟨some 17, .mv (.t 1), none⟩,
           ⟨some 18, .bin .add (.t 17) (.c (.v false (.int .i64 1))), none⟩,
           ⟨some 1, .mv (.t 18), none⟩] none)))
       (.reg [0, 1, 5] [] [
         ⟨some 10, .mv (.t 5), none⟩,
         ⟨some 11, .bin .add (.t 10) (.c (.v false (.int .i64 1))), none⟩,
         ⟨some 5, .mv (.t 11), none⟩] none))

def pb184 : PC :=
.seq (.reg [0, 1] [] [
   ⟨some 4, .mv (.c (.v false (.int .i64 0))), none⟩] none)
 (.seq (.seq (.reg [0, 1, 5] [] [
     ⟨some 5, .mv (.c (.v false (.int .i64 0))), none⟩] none)
   (.blk 0 (.loop pl184_0)))
  (.seq (.reg [0, 4] [] [
     ⟨some 19, .mv (.t 1), none⟩,
     ⟨some 4, .mv (.t 19), none⟩] none)
   (.ret)))

def pf184 : PF := ⟨[.s 4], [0], pb184⟩

-- loop.example/g00496/laws.markConf
def pb186 : PC :=
.seq (.reg [0, 1, 2] [] [
   ⟨some 2, .box 3 (.t 0), none⟩,
   ⟨some 4, .mv (.c (.v false (.int .i64 0))), none⟩] none)
 (.seq (.reg [0, 1] [(8, 1)] [
    ⟨some 5, .fad (.t 2) 0, none⟩,
    ⟨some 6, .ld false 1 (.t 5), none⟩,
    ⟨some 7, .mv (.t 1), none⟩,
    ⟨some 8, .call 190 [0] [(.t 6), (.t 7)], none⟩,
    ⟨some 1, .mv (.t 8), none⟩] none)
  (.seq (.reg [0, 1, 4] [] [
     ⟨some 9, .mv (.t 1), none⟩,
     ⟨some 4, .mv (.t 9), none⟩] none)
   (.ret)))

def pf186 : PF := ⟨[.s 4], [0], pb186⟩

-- loop.example/g00496/laws.markDeadS
def pl187_0 : PC :=
.seq (.seq (.reg [0, 1, 5, 9] [] [
         ⟨some 6, .mv (.t 5), none⟩,
         ⟨some 7, .mv (.t 0), none⟩,
         ⟨some 8, .len (.t 7), none⟩,
         ⟨some 9, .bin .lss (.t 6) (.t 8), none⟩] none)
       (.cond (.t 9) (.skip)
        (.exit 0)))
      (.seq (.blk 1 (.seq (.reg [0, 1, 5] [] [
           ⟨some 12, .mv (.t 0), none⟩,
           ⟨some 13, .mv (.t 5), none⟩,
           ⟨some 14, .mv (.t 1), none⟩,
           ⟨some 15, .iad 3 (.t 12) (.t 13), none⟩,
           ⟨some 16, .fad (.t 15) 0, none⟩,
           ⟨none, .st 1 (.t 16) (.t 14), none⟩] none)
         (.seq (.reg [0, 1, 5] [] [
            ⟨some 17, .mv (.t 1), none⟩,
            ⟨some 18, .bin .add (.t 17) (.c (.v false (.int .i64 1))), none⟩,
            ⟨some 1, .mv (.t 18), none⟩] none)
          (.seq (.reg [0, 1, 5] [] [
             ⟨some 19, .mv (.t 0), none⟩,
             ⟨some 20, .mv (.t 5), none⟩,
             ⟨some 21, .mv (.t 1), none⟩,
             ⟨some 22, .iad 3 (.t 19) (.t 20), none⟩,
             ⟨some 23, .fad (.t 22) 1, none⟩,
             ⟨none, .st 1 (.t 23) (.t 21), none⟩] none)
           (.seq (.reg [0, 1, 5] [] [
              ⟨some 24, .mv (.t 1), none⟩,
              ⟨some 25, .bin .add (.t 24) (.c (.v false (.int .i64 1))), none⟩,
              ⟨some 1, .mv (.t 25), none⟩] none)
            (.seq (.reg [0, 1, 5] [] [
               ⟨some 26, .mv (.t 0), none⟩,
               ⟨some 27, .mv (.t 5), none⟩,
               ⟨some 28, .mv (.t 1), none⟩,
               ⟨some 29, .iad 3 (.t 26) (.t 27), none⟩,
               ⟨some 30, .fad (.t 29) 2, none⟩,
               ⟨none, .st 1 (.t 30) (.t 28), none⟩] none)
             (.reg [0, 1, 5] [] [
               ⟨some 31, .mv (.t 1), none⟩,
               ⟨some 32, .bin .add (.t 31) (.c (.v false (.int .i64 1))), none⟩,
               ⟨some 1, .mv (.t 32), none⟩] none)))))))
       (.reg [0, 1, 5] [] [
         ⟨some 10, .mv (.t 5), none⟩,
         ⟨some 11, .bin .add (.t 10) (.c (.v false (.int .i64 1))), none⟩,
         ⟨some 5, .mv (.t 11), none⟩] none))

def pb187 : PC :=
.seq (.reg [0, 1] [] [
   ⟨some 4, .mv (.c (.v false (.int .i64 0))), none⟩] none)
 (.seq (.seq (.reg [0, 1, 5] [] [
     ⟨some 5, .mv (.c (.v false (.int .i64 0))), none⟩] none)
   (.blk 0 (.loop pl187_0)))
  (.seq (.reg [0, 4] [] [
     ⟨some 33, .mv (.t 1), none⟩,
     ⟨some 4, .mv (.t 33), none⟩] none)
   (.ret)))

def pf187 : PF := ⟨[.s 4], [0], pb187⟩

-- loop.example/g00496/laws.markDeedS
def pl188_0 : PC :=
.seq (.seq (.reg [0, 1, 5, 9] [] [
         ⟨some 6, .mv (.t 5), none⟩,
         ⟨some 7, .mv (.t 0), none⟩,
         ⟨some 8, .len (.t 7), none⟩,
         ⟨some 9, .bin .lss (.t 6) (.t 8), none⟩] none)
       (.cond (.t 9) (.skip)
        (.exit 0)))
      (.seq (.blk 1 (.seq (.reg [0, 1, 5] [] [
           ⟨some 12, .mv (.t 0), none⟩,
           ⟨some 13, .mv (.t 5), none⟩,
           ⟨some 14, .mv (.t 1), none⟩,
           ⟨some 15, .iad 25 (.t 12) (.t 13), none⟩,
           ⟨some 16, .fad (.t 15) 0, none⟩,
           ⟨none, .st 1 (.t 16) (.t 14), none⟩] none)
         (.seq (.reg [0, 1, 5] [] [
            ⟨some 17, .mv (.t 1), none⟩,
            ⟨some 18, .bin .add (.t 17) (.c (.v false (.int .i64 1))), none⟩,
            ⟨some 1, .mv (.t 18), none⟩] none)
          (.seq (.reg [0, 1, 5] [] [
             ⟨some 19, .mv (.t 0), none⟩,
             ⟨some 20, .mv (.t 5), none⟩,
             ⟨some 21, .mv (.t 1), none⟩,
             ⟨some 22, .iad 25 (.t 19) (.t 20), none⟩,
             ⟨some 23, .fad (.t 22) 1, none⟩,
             ⟨none, .st 1 (.t 23) (.t 21), none⟩] none)
           (.seq (.reg [0, 1, 5] [] [
              ⟨some 24, .mv (.t 1), none⟩,
              ⟨some 25, .bin .add (.t 24) (.c (.v false (.int .i64 1))), none⟩,
              ⟨some 1, .mv (.t 25), none⟩] none)
            (.seq (.reg [0, 1, 5] [(32, 1)] [
               ⟨some 26, .mv (.t 0), none⟩,
               ⟨some 27, .mv (.t 5), none⟩,
               ⟨some 28, .iad 25 (.t 26) (.t 27), none⟩,
               ⟨some 29, .fad (.t 28) 2, none⟩,
               ⟨some 30, .ld false 1 (.t 29), none⟩,
               ⟨some 31, .mv (.t 1), none⟩,
               ⟨some 32, .call 197 [0] [(.t 30), (.t 31)], none⟩,
               ⟨some 1, .mv (.t 32), none⟩] none)
             (.seq (.reg [0, 1, 5] [] [
                ⟨some 33, .mv (.t 0), none⟩,
                ⟨some 34, .mv (.t 5), none⟩,
                ⟨some 35, .mv (.t 1), none⟩,
                ⟨some 36, .iad 25 (.t 33) (.t 34), none⟩,
                ⟨some 37, .fad (.t 36) 3, none⟩,
                ⟨none, .st 1 (.t 37) (.t 35), none⟩] none)
              (.seq (.reg [0, 1, 5] [] [
                 ⟨some 38, .mv (.t 1), none⟩,
                 ⟨some 39, .bin .add (.t 38) (.c (.v false (.int .i64 1))), none⟩,
                 ⟨some 1, .mv (.t 39), none⟩] none)
               (.seq (.reg [0, 1, 5] [] [
                  ⟨some 40, .mv (.t 0), none⟩,
                  ⟨some 41, .mv (.t 5), none⟩,
                  ⟨some 42, .mv (.t 1), none⟩,
                  ⟨some 43, .iad 25 (.t 40) (.t 41), none⟩,
                  ⟨some 44, .fad (.t 43) 4, none⟩,
                  ⟨some 45, .fad (.t 44) 0, none⟩,
                  ⟨none, .st 1 (.t 45) (.t 42), none⟩] none)
                (.seq (.reg [0, 1, 5] [] [
                   ⟨some 46, .mv (.t 1), none⟩,
                   ⟨some 47, .bin .add (.t 46) (.c (.v false (.int .i64 1))), none⟩,
                   ⟨some 1, .mv (.t 47), none⟩] none)
                 (.seq (.reg [0, 1, 5] [] [
                    ⟨some 48, .mv (.t 0), none⟩,
                    ⟨some 49, .mv (.t 5), none⟩,
                    ⟨some 50, .mv (.t 1), none⟩,
                    ⟨some 51, .iad 25 (.t 48) (.t 49), none⟩,
                    ⟨some 52, .fad (.t 51) 4, none⟩,
                    ⟨some 53, .fad (.t 52) 1, none⟩,
                    ⟨some 54, .fad (.t 53) 0, none⟩,
                    ⟨none, .st 1 (.t 54) (.t 50), none⟩] none)
                  (.seq (.reg [0, 1, 5] [] [
                     ⟨some 55, .mv (.t 1), none⟩,
                     ⟨some 56, .bin .add (.t 55) (.c (.v false (.int .i64 1))), none⟩,
                     ⟨some 1, .mv (.t 56), none⟩] none)
                   (.seq (.reg [0, 1, 5] [] [
                      ⟨some 57, .mv (.t 0), none⟩,
                      ⟨some 58, .mv (.t 5), none⟩,
                      ⟨some 59, .mv (.t 1), none⟩,
                      ⟨some 60, .iad 25 (.t 57) (.t 58), none⟩,
                      ⟨some 61, .fad (.t 60) 4, none⟩,
                      ⟨some 62, .fad (.t 61) 1, none⟩,
                      ⟨some 63, .fad (.t 62) 1, none⟩,
                      ⟨none, .st 1 (.t 63) (.t 59), none⟩] none)
                    (.seq (.reg [0, 1, 5] [] [
                       ⟨some 64, .mv (.t 1), none⟩,
                       ⟨some 65, .bin .add (.t 64) (.c (.v false (.int .i64 1))), none⟩,
                       ⟨some 1, .mv (.t 65), none⟩] none)
                     (.seq (.reg [0, 1, 5] [] [
                        ⟨some 66, .mv (.t 0), none⟩,
                        ⟨some 67, .mv (.t 5), none⟩,
                        ⟨some 68, .mv (.t 1), none⟩,
                        ⟨some 69, .iad 25 (.t 66) (.t 67), none⟩,
                        ⟨some 70, .fad (.t 69) 4, none⟩,
                        ⟨some 71, .fad (.t 70) 1, none⟩,
                        ⟨some 72, .fad (.t 71) 2, none⟩,
                        ⟨none, .st 1 (.t 72) (.t 68), none⟩] none)
                      (.seq (.reg [0, 1, 5] [] [
                         ⟨some 73, .mv (.t 1), none⟩,
                         ⟨some 74, .bin .add (.t 73) (.c (.v false (.int .i64 1))), none⟩,
                         ⟨some 1, .mv (.t 74), none⟩] none)
                       (.seq (.reg [0, 1, 5] [] [
                          ⟨some 75, .mv (.t 0), none⟩,
                          ⟨some 76, .mv (.t 5), none⟩,
                          ⟨some 77, .mv (.t 1), none⟩,
                          ⟨some 78, .iad 25 (.t 75) (.t 76), none⟩,
                          ⟨some 79, .fad (.t 78) 4, none⟩,
                          ⟨some 80, .fad (.t 79) 1, none⟩,
                          ⟨some 81, .fad (.t 80) 3, none⟩,
                          ⟨some 82, .fad (.t 81) 0, none⟩,
                          ⟨none, .st 1 (.t 82) (.t 77), none⟩] none)
                        (.seq (.reg [0, 1, 5] [] [
                           ⟨some 83, .mv (.t 1), none⟩,
                           ⟨some 84, .bin .add (.t 83) (.c (.v false (.int .i64 1))), none⟩,
                           ⟨some 1, .mv (.t 84), none⟩] none)
                         (.seq (.reg [0, 1, 5] [] [
                            ⟨some 85, .mv (.t 0), none⟩,
                            ⟨some 86, .mv (.t 5), none⟩,
                            ⟨some 87, .mv (.t 1), none⟩,
                            ⟨some 88, .iad 25 (.t 85) (.t 86), none⟩,
                            ⟨some 89, .fad (.t 88) 4, none⟩,
                            ⟨some 90, .fad (.t 89) 1, none⟩,
                            ⟨some 91, .fad (.t 90) 3, none⟩,
                            ⟨some 92, .fad (.t 91) 1, none⟩,
                            ⟨none, .st 1 (.t 92) (.t 87), none⟩] none)
                          (.seq (.reg [0, 1, 5] [] [
                             ⟨some 93, .mv (.t 1), none⟩,
                             ⟨some 94, .bin .add (.t 93) (.c (.v false (.int .i64 1))), none⟩,
                             ⟨some 1, .mv (.t 94), none⟩] none)
                           (.seq (.reg [0, 1, 5] [] [
                              ⟨some 95, .mv (.t 0), none⟩,
                              ⟨some 96, .mv (.t 5), none⟩,
                              ⟨some 97, .mv (.t 1), none⟩,
                              ⟨some 98, .call 196 [] [(.t 97)], none⟩,
                              ⟨some 99, .iad 25 (.t 95) (.t 96), none⟩,
                              ⟨some 100, .fad (.t 99) 4, none⟩,
                              ⟨some 101, .fad (.t 100) 1, none⟩,
                              ⟨some 102, .fad (.t 101) 3, none⟩,
                              ⟨some 103, .fad (.t 102) 2, none⟩,
                              ⟨none, .st 1 (.t 103) (.t 98), none⟩] none)
                            (.seq (.reg [0, 1, 5] [] [
                               ⟨some 104, .mv (.t 1), none⟩,
                               ⟨some 105, .bin .add (.t 104) (.c (.v false (.int .i64 1))), none⟩,
                               ⟨some 1, .mv (.t 105), none⟩] none)
                             (.seq (.reg [0, 1, 5] [(114, 1)] [
                                ⟨some 106, .mv (.t 0), none⟩,
                                ⟨some 107, .mv (.t 5), none⟩,
                                ⟨some 108, .iad 25 (.t 106) (.t 107), none⟩,
                                ⟨some 109, .fad (.t 108) 4, none⟩,
                                ⟨some 110, .fad (.t 109) 1, none⟩,
                                ⟨some 111, .fad (.t 110) 6, none⟩,
                                ⟨some 112, .ld false 1 (.t 111), none⟩,
                                ⟨some 113, .mv (.t 1), none⟩,
                                ⟨some 114, .call 191 [0] [(.t 112), (.t 113)], none⟩,
                                ⟨some 1, .mv (.t 114), none⟩] none)
                              (.seq (.reg [0, 1, 5] [] [
                                 ⟨some 115, .mv (.t 0), none⟩,
                                 ⟨some 116, .mv (.t 5), none⟩,
                                 ⟨some 117, .mv (.t 1), none⟩,
                                 ⟨some 118, .iad 25 (.t 115) (.t 116), none⟩,
                                 ⟨some 119, .fad (.t 118) 4, none⟩,
                                 ⟨some 120, .fad (.t 119) 8, none⟩,
                                 ⟨none, .st 1 (.t 120) (.t 117), none⟩] none)
                               (.seq (.reg [0, 1, 5] [] [
                                  ⟨some 121, .mv (.t 1), none⟩,
                                  ⟨some 122, .bin .add (.t 121) (.c (.v false (.int .i64 1))), none⟩,
                                  ⟨some 1, .mv (.t 122), none⟩] none)
                                (.seq (.reg [0, 1, 5] [(130, 1)] [
                                   ⟨some 123, .mv (.t 0), none⟩,
                                   ⟨some 124, .mv (.t 5), none⟩,
                                   ⟨some 125, .iad 25 (.t 123) (.t 124), none⟩,
                                   ⟨some 126, .fad (.t 125) 4, none⟩,
                                   ⟨some 127, .fad (.t 126) 9, none⟩,
                                   ⟨some 128, .ld false 1 (.t 127), none⟩,
                                   ⟨some 129, .mv (.t 1), none⟩,
                                   ⟨some 130, .call 190 [0] [(.t 128), (.t 129)], none⟩,
                                   ⟨some 1, .mv (.t 130), none⟩] none)
                                 (.seq (.reg [0, 1, 5] [(138, 1)] [
                                    ⟨some 131, .mv (.t 0), none⟩,
                                    ⟨some 132, .mv (.t 5), none⟩,
                                    ⟨some 133, .iad 25 (.t 131) (.t 132), none⟩,
                                    ⟨some 134, .fad (.t 133) 14, none⟩,
                                    ⟨some 135, .fad (.t 134) 0, none⟩,
                                    ⟨some 136, .ld false 1 (.t 135), none⟩,
                                    ⟨some 137, .mv (.t 1), none⟩,
                                    ⟨some 138, .call 193 [0] [(.t 136), (.t 137)], none⟩,
                                    ⟨some 1, .mv (.t 138), none⟩] none)
                                  (.seq (.reg [0, 1, 5] [] [
                                     ⟨some 139, .mv (.t 0), none⟩,
                                     ⟨some 140, .mv (.t 5), none⟩,
                                     ⟨some 141, .mv (.t 1), none⟩,
                                     ⟨some 142, .iad 25 (.t 139) (.t 140), none⟩,
                                     ⟨some 143, .fad (.t 142) 14, none⟩,
                                     ⟨some 144, .fad (.t 143) 1, none⟩,
                                     ⟨none, .st 1 (.t 144) (.t 141), none⟩] none)
                                   (.seq (.reg [0, 1, 5] [] [
                                      ⟨some 145, .mv (.t 1), none⟩,
                                      ⟨some 146, .bin .add (.t 145) (.c (.v false (.int .i64 1))), none⟩,
                                      ⟨some 1, .mv (.t 146), none⟩] none)
                                    (.seq (.reg [0, 1, 5] [] [
                                       ⟨some 147, .mv (.t 0), none⟩,
                                       ⟨some 148, .mv (.t 5), none⟩,
                                       ⟨some 149, .mv (.t 1), none⟩,
                                       ⟨some 150, .bin .rem (.t 149) (.c (.v false (.int .i64 3))), none⟩,
                                       ⟨some 151, .bin .eql (.t 150) (.c (.v false (.int .i64 0))), none⟩,
                                       ⟨some 152, .iad 25 (.t 147) (.t 148), none⟩,
                                       ⟨some 153, .fad (.t 152) 14, none⟩,
                                       ⟨some 154, .fad (.t 153) 2, none⟩,
                                       ⟨none, .st 1 (.t 154) (.t 151), none⟩] none)
                                     (.seq (.reg [0, 1, 5] [] [
                                        ⟨some 155, .mv (.t 1), none⟩,
                                        ⟨some 156, .bin .add (.t 155) (.c (.v false (.int .i64 1))), none⟩,
                                        ⟨some 1, .mv (.t 156), none⟩] none)
                                      (.seq (.reg [0, 1, 5] [] [
                                         ⟨some 157, .mv (.t 0), none⟩,
                                         ⟨some 158, .mv (.t 5), none⟩,
                                         ⟨some 159, .mv (.t 1), none⟩,
                                         ⟨some 160, .iad 25 (.t 157) (.t 158), none⟩,
                                         ⟨some 161, .fad (.t 160) 14, none⟩,
                                         ⟨some 162, .fad (.t 161) 3, none⟩,
                                         ⟨some 163, .fad (.t 162) 0, none⟩,
                                         ⟨none, .st 1 (.t 163) (.t 159), none⟩] none)
                                       (.seq (.reg [0, 1, 5] [] [
                                          ⟨some 164, .mv (.t 1), none⟩,
                                          ⟨some 165, .bin .add (.t 164) (.c (.v false (.int .i64 1))), none⟩,
                                          ⟨some 1, .mv (.t 165), none⟩] none)
                                        (.seq (.reg [0, 1, 5] [] [
                                           ⟨some 166, .mv (.t 0), none⟩,
                                           ⟨some 167, .mv (.t 5), none⟩,
                                           ⟨some 168, .mv (.t 1), none⟩,
                                           ⟨some 169, .iad 25 (.t 166) (.t 167), none⟩,
                                           ⟨some 170, .fad (.t 169) 14, none⟩,
                                           ⟨some 171, .fad (.t 170) 3, none⟩,
                                           ⟨some 172, .fad (.t 171) 1, none⟩,
                                           ⟨none, .st 1 (.t 172) (.t 168), none⟩] none)
                                         (.seq (.reg [0, 1, 5] [] [
                                            ⟨some 173, .mv (.t 1), none⟩,
                                            ⟨some 174, .bin .add (.t 173) (.c (.v false (.int .i64 1))), none⟩,
                                            ⟨some 1, .mv (.t 174), none⟩] none)
                                          (.seq (.reg [0, 1, 5] [] [
                                             ⟨some 175, .mv (.t 0), none⟩,
                                             ⟨some 176, .mv (.t 5), none⟩,
                                             ⟨some 177, .mv (.t 1), none⟩,
                                             ⟨some 178, .call 196 [] [(.t 177)], none⟩,
                                             ⟨some 179, .iad 25 (.t 175) (.t 176), none⟩,
                                             ⟨some 180, .fad (.t 179) 14, none⟩,
                                             ⟨some 181, .fad (.t 180) 3, none⟩,
                                             ⟨some 182, .fad (.t 181) 2, none⟩,
                                             ⟨none, .st 1 (.t 182) (.t 178), none⟩] none)
                                           (.seq (.reg [0, 1, 5] [] [
                                              ⟨some 183, .mv (.t 1), none⟩,
                                              ⟨some 184, .bin .add (.t 183) (.c (.v false (.int .i64 1))), none⟩,
                                              ⟨some 1, .mv (.t 184), none⟩] none)
                                            (.seq (.reg [0, 1, 5] [] [
                                               ⟨some 185, .mv (.t 0), none⟩,
                                               ⟨some 186, .mv (.t 5), none⟩,
                                               ⟨some 187, .mv (.t 1), none⟩,
                                               ⟨some 188, .iad 25 (.t 185) (.t 186), none⟩,
                                               ⟨some 189, .fad (.t 188) 20, none⟩,
                                               ⟨none, .st 1 (.t 189) (.t 187), none⟩] none)
                                             (.seq (.reg [0, 1, 5] [] [
                                                ⟨some 190, .mv (.t 1), none⟩,
                                                ⟨some 191, .bin .add (.t 190) (.c (.v false (.int .i64 1))), none⟩,
                                                ⟨some 1, .mv (.t 191), none⟩] none)
                                              (.seq (.reg [0, 1, 5] [] [
                                                 ⟨some 192, .mv (.t 0), none⟩,
                                                 ⟨some 193, .mv (.t 5), none⟩,
                                                 ⟨some 194, .mv (.t 1), none⟩,
                                                 ⟨some 195, .iad 25 (.t 192) (.t 193), none⟩,
                                                 ⟨some 196, .fad (.t 195) 21, none⟩,
                                                 ⟨none, .st 1 (.t 196) (.t 194), none⟩] none)
                                               (.seq (.reg [0, 1, 5] [] [
                                                  ⟨some 197, .mv (.t 1), none⟩,
                                                  ⟨some 198, .bin .add (.t 197) (.c (.v false (.int .i64 1))), none⟩,
                                                  ⟨some 1, .mv (.t 198), none⟩] none)
                                                (.seq (.reg [0, 1, 5] [] [
                                                   ⟨some 199, .mv (.t 0), none⟩,
                                                   ⟨some 200, .mv (.t 5), none⟩,
                                                   ⟨some 201, .mv (.t 1), none⟩,
                                                   ⟨some 202, .iad 25 (.t 199) (.t 200), none⟩,
                                                   ⟨some 203, .fad (.t 202) 22, none⟩,
                                                   ⟨none, .st 1 (.t 203) (.t 201), none⟩] none)
                                                 (.seq (.reg [0, 1, 5] [] [
                                                    ⟨some 204, .mv (.t 1), none⟩,
                                                    ⟨some 205, .bin .add (.t 204) (.c (.v false (.int .i64 1))), none⟩,
                                                    ⟨some 1, .mv (.t 205), none⟩] none)
                                                  (.seq (.reg [0, 1, 5] [] [
                                                     ⟨some 206, .mv (.t 0), none⟩,
                                                     ⟨some 207, .mv (.t 5), none⟩,
                                                     ⟨some 208, .mv (.t 1), none⟩,
                                                     ⟨some 209, .iad 25 (.t 206) (.t 207), none⟩,
                                                     ⟨some 210, .fad (.t 209) 23, none⟩,
                                                     ⟨none, .st 1 (.t 210) (.t 208), none⟩] none)
                                                   (.seq (.reg [0, 1, 5] [] [
                                                      ⟨some 211, .mv (.t 1), none⟩,
                                                      ⟨some 212, .bin .add (.t 211) (.c (.v false (.int .i64 1))), none⟩,
                                                      ⟨some 1, .mv (.t 212), none⟩] none)
                                                    (.seq (.reg [0, 1, 5] [] [
                                                       ⟨some 213, .mv (.t 0), none⟩,
                                                       ⟨some 214, .mv (.t 5), none⟩,
                                                       ⟨some 215, .mv (.t 1), none⟩,
                                                       ⟨some 216, .iad 25 (.t 213) (.t 214), none⟩,
                                                       ⟨some 217, .fad (.t 216) 24, none⟩,
                                                       ⟨none, .st 1 (.t 217) (.t 215), none⟩] none)
                                                     (.reg [0, 1, 5] [] [
                                                       ⟨some 218, .mv (.t 1), none⟩,
                                                       ⟨some 219, .bin .add (.t 218) (.c (.v false (.int .i64 1))), none⟩,
                                                       ⟨some 1, .mv (.t 219), none⟩] none)))))))))))))))))))))))))))))))))))))))))))))))
       (.reg [0, 1, 5] [] [
         ⟨some 10, .mv (.t 5), none⟩,
         ⟨some 11, .bin .add (.t 10) (.c (.v false (.int .i64 1))), none⟩,
         ⟨some 5, .mv (.t 11), none⟩] none))

def pb188 : PC :=
.seq (.reg [0, 1] [] [
   ⟨some 4, .mv (.c (.v false (.int .i64 0))), none⟩] none)
 (.seq (.seq (.reg [0, 1, 5] [] [
     ⟨some 5, .mv (.c (.v false (.int .i64 0))), none⟩] none)
   (.blk 0 (.loop pl188_0)))
  (.seq (.reg [0, 4] [] [
     ⟨some 220, .mv (.t 1), none⟩,
     ⟨some 4, .mv (.t 220), none⟩] none)
   (.ret)))

def pf188 : PF := ⟨[.s 4], [0], pb188⟩

-- loop.example/g00496/laws.markDir
def pb189 : PC :=
.seq (.reg [0, 1, 2] [] [
   ⟨some 2, .box 2 (.t 0), none⟩,
   ⟨some 4, .mv (.c (.v false (.int .i64 0))), none⟩] none)
 (.seq (.reg [0, 1] [(8, 1)] [
    ⟨some 5, .fad (.t 2) 1, none⟩,
    ⟨some 6, .ld false 1 (.t 5), none⟩,
    ⟨some 7, .mv (.t 1), none⟩,
    ⟨some 8, .call 192 [0] [(.t 6), (.t 7)], none⟩,
    ⟨some 1, .mv (.t 8), none⟩] none)
  (.seq (.reg [0, 1, 4] [] [
     ⟨some 9, .mv (.t 1), none⟩,
     ⟨some 4, .mv (.t 9), none⟩] none)
   (.ret)))

def pf189 : PF := ⟨[.s 4], [0], pb189⟩

-- loop.example/g00496/laws.markIntS
def pl190_0 : PC :=
.seq (.seq (.reg [0, 1, 5, 9] [] [
         ⟨some 6, .mv (.t 5), none⟩,
         ⟨some 7, .mv (.t 0), none⟩,
         ⟨some 8, .len (.t 7), none⟩,
         ⟨some 9, .bin .lss (.t 6) (.t 8), none⟩] none)
       (.cond (.t 9) (.skip)
        (.exit 0)))
      (.seq (.blk 1 (.seq (.reg [0, 1, 5] [] [
           ⟨some 12, .mv (.t 0), none⟩,
           ⟨some 13, .mv (.t 5), none⟩,
           ⟨some 14, .mv (.t 1), none⟩,
           ⟨some 15, .iad 1 (.t 12) (.t 13), none⟩,
           ⟨none, .st 1 (.t 15) (.t 14), none⟩] none)
         (.reg [0, 1, 5] [] [
           ⟨some 16, .mv (.t 1), none⟩,
           ⟨some 17, .bin .add (.t 16) (.c (.v false (.int .i64 1))), none⟩,
           ⟨some 1, .mv (.t 17), none⟩] none)))
       (.reg [0, 1, 5] [] [
         ⟨some 10, .mv (.t 5), none⟩,
         ⟨some 11, .bin .add (.t 10) (.c (.v false (.int .i64 1))), none⟩,
         ⟨some 5, .mv (.t 11), none⟩] none))

def pb190 : PC :=
.seq (.reg [0, 1] [] [
   ⟨some 4, .mv (.c (.v false (.int .i64 0))), none⟩] none)
 (.seq (.seq (.reg [0, 1, 5] [] [
     ⟨some 5, .mv (.c (.v false (.int .i64 0))), none⟩] none)
   (.blk 0 (.loop pl190_0)))
  (.seq (.reg [0, 4] [] [
     ⟨some 18, .mv (.t 1), none⟩,
     ⟨some 4, .mv (.t 18), none⟩] none)
   (.ret)))

def pf190 : PF := ⟨[.s 4], [0], pb190⟩

-- loop.example/g00496/laws.markPredS
def pl191_0 : PC :=
.seq (.seq (.reg [0, 1, 5, 9] [] [
         ⟨some 6, .mv (.t 5), none⟩,
         ⟨some 7, .mv (.t 0), none⟩,
         ⟨some 8, .len (.t 7), none⟩,
         ⟨some 9, .bin .lss (.t 6) (.t 8), none⟩] none)
       (.cond (.t 9) (.skip)
        (.exit 0)))
      (.seq (.blk 1 (.seq (.reg [0, 1, 5] [] [
           ⟨some 12, .mv (.t 0), none⟩,
           ⟨some 13, .mv (.t 5), none⟩,
           ⟨some 14, .mv (.t 1), none⟩,
           ⟨some 15, .iad 7 (.t 12) (.t 13), none⟩,
           ⟨some 16, .fad (.t 15) 0, none⟩,
           ⟨none, .st 1 (.t 16) (.t 14), none⟩] none)
         (.seq (.reg [0, 1, 5] [] [
            ⟨some 17, .mv (.t 1), none⟩,
            ⟨some 18, .bin .add (.t 17) (.c (.v false (.int .i64 1))), none⟩,
            ⟨some 1, .mv (.t 18), none⟩] none)
          (.seq (.reg [0, 1, 5] [] [
             ⟨some 19, .mv (.t 0), none⟩,
             ⟨some 20, .mv (.t 5), none⟩,
             ⟨some 21, .mv (.t 1), none⟩,
             ⟨some 22, .iad 7 (.t 19) (.t 20), none⟩,
             ⟨some 23, .fad (.t 22) 1, none⟩,
             ⟨none, .st 1 (.t 23) (.t 21), none⟩] none)
           (.seq (.reg [0, 1, 5] [] [
              ⟨some 24, .mv (.t 1), none⟩,
              ⟨some 25, .bin .add (.t 24) (.c (.v false (.int .i64 1))), none⟩,
              ⟨some 1, .mv (.t 25), none⟩] none)
            (.seq (.reg [0, 1, 5] [] [
               ⟨some 26, .mv (.t 0), none⟩,
               ⟨some 27, .mv (.t 5), none⟩,
               ⟨some 28, .mv (.t 1), none⟩,
               ⟨some 29, .iad 7 (.t 26) (.t 27), none⟩,
               ⟨some 30, .fad (.t 29) 2, none⟩,
               ⟨none, .st 1 (.t 30) (.t 28), none⟩] none)
             (.seq (.reg [0, 1, 5] [] [
                ⟨some 31, .mv (.t 1), none⟩,
                ⟨some 32, .bin .add (.t 31) (.c (.v false (.int .i64 1))), none⟩,
                ⟨some 1, .mv (.t 32), none⟩] none)
              (.seq (.reg [0, 1, 5] [] [
                 ⟨some 33, .mv (.t 0), none⟩,
                 ⟨some 34, .mv (.t 5), none⟩,
                 ⟨some 35, .mv (.t 1), none⟩,
                 ⟨some 36, .iad 7 (.t 33) (.t 34), none⟩,
                 ⟨some 37, .fad (.t 36) 3, none⟩,
                 ⟨some 38, .fad (.t 37) 0, none⟩,
                 ⟨none, .st 1 (.t 38) (.t 35), none⟩] none)
               (.seq (.reg [0, 1, 5] [] [
                  ⟨some 39, .mv (.t 1), none⟩,
                  ⟨some 40, .bin .add (.t 39) (.c (.v false (.int .i64 1))), none⟩,
                  ⟨some 1, .mv (.t 40), none⟩] none)
                (.seq (.reg [0, 1, 5] [] [
                   ⟨some 41, .mv (.t 0), none⟩,
                   ⟨some 42, .mv (.t 5), none⟩,
                   ⟨some 43, .mv (.t 1), none⟩,
                   ⟨some 44, .iad 7 (.t 41) (.t 42), none⟩,
                   ⟨some 45, .fad (.t 44) 3, none⟩,
                   ⟨some 46, .fad (.t 45) 1, none⟩,
                   ⟨none, .st 1 (.t 46) (.t 43), none⟩] none)
                 (.seq (.reg [0, 1, 5] [] [
                    ⟨some 47, .mv (.t 1), none⟩,
                    ⟨some 48, .bin .add (.t 47) (.c (.v false (.int .i64 1))), none⟩,
                    ⟨some 1, .mv (.t 48), none⟩] none)
                  (.seq (.reg [0, 1, 5] [] [
                     ⟨some 49, .mv (.t 0), none⟩,
                     ⟨some 50, .mv (.t 5), none⟩,
                     ⟨some 51, .mv (.t 1), none⟩,
                     ⟨some 52, .call 196 [] [(.t 51)], none⟩,
                     ⟨some 53, .iad 7 (.t 49) (.t 50), none⟩,
                     ⟨some 54, .fad (.t 53) 3, none⟩,
                     ⟨some 55, .fad (.t 54) 2, none⟩,
                     ⟨none, .st 1 (.t 55) (.t 52), none⟩] none)
                   (.seq (.reg [0, 1, 5] [] [
                      ⟨some 56, .mv (.t 1), none⟩,
                      ⟨some 57, .bin .add (.t 56) (.c (.v false (.int .i64 1))), none⟩,
                      ⟨some 1, .mv (.t 57), none⟩] none)
                    (.reg [0, 1, 5] [(64, 1)] [
                      ⟨some 58, .mv (.t 0), none⟩,
                      ⟨some 59, .mv (.t 5), none⟩,
                      ⟨some 60, .iad 7 (.t 58) (.t 59), none⟩,
                      ⟨some 61, .fad (.t 60) 6, none⟩,
                      ⟨some 62, .ld false 1 (.t 61), none⟩,
                      ⟨some 63, .mv (.t 1), none⟩,
                      ⟨some 64, .call 191 [0] [(.t 62), (.t 63)], none⟩,
                      ⟨some 1, .mv (.t 64), none⟩] none))))))))))))))
       (.reg [0, 1, 5] [] [
         ⟨some 10, .mv (.t 5), none⟩,
         ⟨some 11, .bin .add (.t 10) (.c (.v false (.int .i64 1))), none⟩,
         ⟨some 5, .mv (.t 11), none⟩] none))

def pb191 : PC :=
.seq (.reg [0, 1] [] [
   ⟨some 4, .mv (.c (.v false (.int .i64 0))), none⟩] none)
 (.seq (.seq (.reg [0, 1, 5] [] [
     ⟨some 5, .mv (.c (.v false (.int .i64 0))), none⟩] none)
   (.blk 0 (.loop pl191_0)))
  (.seq (.reg [0, 1, 4] [] [
     ⟨some 65, .mv (.t 1), none⟩,
     ⟨some 4, .mv (.t 65), none⟩] none)
   (.ret)))

def pf191 : PF := ⟨[.s 4], [0], pb191⟩

-- loop.example/g00496/laws.markRefS
def pl192_0 : PC :=
.seq (.seq (.reg [0, 1, 5, 9] [] [
         ⟨some 6, .mv (.t 5), none⟩,
         ⟨some 7, .mv (.t 0), none⟩,
         ⟨some 8, .len (.t 7), none⟩,
         ⟨some 9, .bin .lss (.t 6) (.t 8), none⟩] none)
       (.cond (.t 9) (.skip)
        (.exit 0)))
      (.seq (.blk 1 (.seq (.reg [0, 1, 5] [] [
           ⟨some 12, .mv (.t 0), none⟩,
           ⟨some 13, .mv (.t 5), none⟩,
           ⟨some 14, .mv (.t 1), none⟩,
           ⟨some 15, .iad 5 (.t 12) (.t 13), none⟩,
           ⟨some 16, .fad (.t 15) 0, none⟩,
           ⟨none, .st 1 (.t 16) (.t 14), none⟩] none)
         (.seq (.reg [0, 1, 5] [] [
            ⟨some 17, .mv (.t 1), none⟩,
            ⟨some 18, .bin .add (.t 17) (.c (.v false (.int .i64 1))), none⟩,
            ⟨some 1, .mv (.t 18), none⟩] none)
          (.seq (.reg [0, 1, 5] [] [
             ⟨some 19, .mv (.t 0), none⟩,
             ⟨some 20, .mv (.t 5), none⟩,
             ⟨some 21, .mv (.t 1), none⟩,
             ⟨some 22, .iad 5 (.t 19) (.t 20), none⟩,
             ⟨some 23, .fad (.t 22) 1, none⟩,
             ⟨none, .st 1 (.t 23) (.t 21), none⟩] none)
           (.seq (.reg [0, 1, 5] [] [
              ⟨some 24, .mv (.t 1), none⟩,
              ⟨some 25, .bin .add (.t 24) (.c (.v false (.int .i64 1))), none⟩,
              ⟨some 1, .mv (.t 25), none⟩] none)
            (.seq (.reg [0, 1, 5] [] [
               ⟨some 26, .mv (.t 0), none⟩,
               ⟨some 27, .mv (.t 5), none⟩,
               ⟨some 28, .mv (.t 1), none⟩,
               ⟨some 29, .iad 5 (.t 26) (.t 27), none⟩,
               ⟨some 30, .fad (.t 29) 2, none⟩,
               ⟨none, .st 1 (.t 30) (.t 28), none⟩] none)
             (.seq (.reg [0, 1, 5] [] [
                ⟨some 31, .mv (.t 1), none⟩,
                ⟨some 32, .bin .add (.t 31) (.c (.v false (.int .i64 1))), none⟩,
                ⟨some 1, .mv (.t 32), none⟩] none)
              (.seq (.reg [0, 1, 5] [] [
                 ⟨some 33, .mv (.t 0), none⟩,
                 ⟨some 34, .mv (.t 5), none⟩,
                 ⟨some 35, .mv (.t 1), none⟩,
                 ⟨some 36, .iad 5 (.t 33) (.t 34), none⟩,
                 ⟨some 37, .fad (.t 36) 3, none⟩,
                 ⟨none, .st 1 (.t 37) (.t 35), none⟩] none)
               (.seq (.reg [0, 1, 5] [] [
                  ⟨some 38, .mv (.t 1), none⟩,
                  ⟨some 39, .bin .add (.t 38) (.c (.v false (.int .i64 1))), none⟩,
                  ⟨some 1, .mv (.t 39), none⟩] none)
                (.seq (.reg [0, 1, 5] [] [
                   ⟨some 40, .mv (.t 0), none⟩,
                   ⟨some 41, .mv (.t 5), none⟩,
                   ⟨some 42, .mv (.t 1), none⟩,
                   ⟨some 43, .iad 5 (.t 40) (.t 41), none⟩,
                   ⟨some 44, .fad (.t 43) 4, none⟩,
                   ⟨none, .st 1 (.t 44) (.t 42), none⟩] none)
                 (.reg [0, 1, 5] [] [
                   ⟨some 45, .mv (.t 1), none⟩,
                   ⟨some 46, .bin .add (.t 45) (.c (.v false (.int .i64 1))), none⟩,
                   ⟨some 1, .mv (.t 46), none⟩] none)))))))))))
       (.reg [0, 1, 5] [] [
         ⟨some 10, .mv (.t 5), none⟩,
         ⟨some 11, .bin .add (.t 10) (.c (.v false (.int .i64 1))), none⟩,
         ⟨some 5, .mv (.t 11), none⟩] none))

def pb192 : PC :=
.seq (.reg [0, 1] [] [
   ⟨some 4, .mv (.c (.v false (.int .i64 0))), none⟩] none)
 (.seq (.seq (.reg [0, 1, 5] [] [
     ⟨some 5, .mv (.c (.v false (.int .i64 0))), none⟩] none)
   (.blk 0 (.loop pl192_0)))
  (.seq (.reg [0, 4] [] [
     ⟨some 47, .mv (.t 1), none⟩,
     ⟨some 4, .mv (.t 47), none⟩] none)
   (.ret)))

def pf192 : PF := ⟨[.s 4], [0], pb192⟩

-- loop.example/g00496/laws.markRowS
def pl193_0 : PC :=
.seq (.seq (.reg [0, 1, 5, 9] [] [
         ⟨some 6, .mv (.t 5), none⟩,
         ⟨some 7, .mv (.t 0), none⟩,
         ⟨some 8, .len (.t 7), none⟩,
         ⟨some 9, .bin .lss (.t 6) (.t 8), none⟩] none)
       (.cond (.t 9) (.skip)
        (.exit 0)))
      (.seq (.blk 1 (.seq (.reg [0, 1, 5] [] [
           ⟨some 12, .mv (.t 0), none⟩,
           ⟨some 13, .mv (.t 5), none⟩,
           ⟨some 14, .mv (.t 1), none⟩,
           ⟨some 15, .iad 2 (.t 12) (.t 13), none⟩,
           ⟨some 16, .fad (.t 15) 0, none⟩,
           ⟨none, .st 1 (.t 16) (.t 14), none⟩] none)
         (.seq (.reg [0, 1, 5] [] [
            ⟨some 17, .mv (.t 1), none⟩,
            ⟨some 18, .bin .add (.t 17) (.c (.v false (.int .i64 1))), none⟩,
            ⟨some 1, .mv (.t 18), none⟩] none)
          (.reg [0, 1, 5] [(25, 1)] [
            ⟨some 19, .mv (.t 0), none⟩,
            ⟨some 20, .mv (.t 5), none⟩,
            ⟨some 21, .iad 2 (.t 19) (.t 20), none⟩,
            ⟨some 22, .fad (.t 21) 1, none⟩,
            ⟨some 23, .ld false 1 (.t 22), none⟩,
            ⟨some 24, .mv (.t 1), none⟩,
            ⟨some 25, .call 197 [0] [(.t 23), (.t 24)], none⟩,
            ⟨some 1, .mv (.t 25), none⟩] none))))
       (.reg [0, 1, 5] [] [
         ⟨some 10, .mv (.t 5), none⟩,
         ⟨some 11, .bin .add (.t 10) (.c (.v false (.int .i64 1))), none⟩,
         ⟨some 5, .mv (.t 11), none⟩] none))

def pb193 : PC :=
.seq (.reg [0, 1] [] [
   ⟨some 4, .mv (.c (.v false (.int .i64 0))), none⟩] none)
 (.seq (.seq (.reg [0, 1, 5] [] [
     ⟨some 5, .mv (.c (.v false (.int .i64 0))), none⟩] none)
   (.blk 0 (.loop pl193_0)))
  (.seq (.reg [0, 1, 4] [] [
     ⟨some 26, .mv (.t 1), none⟩,
     ⟨some 4, .mv (.t 26), none⟩] none)
   (.ret)))

def pf193 : PF := ⟨[.s 4], [0], pb193⟩

-- loop.example/g00496/laws.markSlotS
def pl194_0 : PC :=
.seq (.seq (.reg [0, 1, 5, 9] [] [
         ⟨some 6, .mv (.t 5), none⟩,
         ⟨some 7, .mv (.t 0), none⟩,
         ⟨some 8, .len (.t 7), none⟩,
         ⟨some 9, .bin .lss (.t 6) (.t 8), none⟩] none)
       (.cond (.t 9) (.skip)
        (.exit 0)))
      (.seq (.blk 1 (.seq (.reg [0, 1, 5] [] [
           ⟨some 12, .mv (.t 0), none⟩,
           ⟨some 13, .mv (.t 5), none⟩,
           ⟨some 14, .mv (.t 1), none⟩,
           ⟨some 15, .iad 2 (.t 12) (.t 13), none⟩,
           ⟨some 16, .fad (.t 15) 0, none⟩,
           ⟨none, .st 1 (.t 16) (.t 14), none⟩] none)
         (.seq (.reg [0, 1, 5] [] [
            ⟨some 17, .mv (.t 1), none⟩,
            ⟨some 18, .bin .add (.t 17) (.c (.v false (.int .i64 1))), none⟩,
            ⟨some 1, .mv (.t 18), none⟩] none)
          (.reg [0, 1, 5] [(25, 1)] [
            ⟨some 19, .mv (.t 0), none⟩,
            ⟨some 20, .mv (.t 5), none⟩,
            ⟨some 21, .iad 2 (.t 19) (.t 20), none⟩,
            ⟨some 22, .fad (.t 21) 1, none⟩,
            ⟨some 23, .ld false 1 (.t 22), none⟩,
            ⟨some 24, .mv (.t 1), none⟩,
            ⟨some 25, .call 197 [0] [(.t 23), (.t 24)], none⟩,
            ⟨some 1, .mv (.t 25), none⟩] none))))
       (.reg [0, 1, 5] [] [
         ⟨some 10, .mv (.t 5), none⟩,
         ⟨some 11, .bin .add (.t 10) (.c (.v false (.int .i64 1))), none⟩,
         ⟨some 5, .mv (.t 11), none⟩] none))

def pb194 : PC :=
.seq (.reg [0, 1] [] [
   ⟨some 4, .mv (.c (.v false (.int .i64 0))), none⟩] none)
 (.seq (.seq (.reg [0, 1, 5] [] [
     ⟨some 5, .mv (.c (.v false (.int .i64 0))), none⟩] none)
   (.blk 0 (.loop pl194_0)))
  (.seq (.reg [0, 1, 4] [] [
     ⟨some 26, .mv (.t 1), none⟩,
     ⟨some 4, .mv (.t 26), none⟩] none)
   (.ret)))

def pf194 : PF := ⟨[.s 4], [0], pb194⟩

-- loop.example/g00496/laws.markTaskS
def pl195_0 : PC :=
.seq (.seq (.reg [0, 1, 5, 9] [] [
         ⟨some 6, .mv (.t 5), none⟩,
         ⟨some 7, .mv (.t 0), none⟩,
         ⟨some 8, .len (.t 7), none⟩,
         ⟨some 9, .bin .lss (.t 6) (.t 8), none⟩] none)
       (.cond (.t 9) (.skip)
        (.exit 0)))
      (.seq (.blk 1 (.seq (.reg [0, 1, 5] [] [
           ⟨some 12, .mv (.t 0), none⟩,
           ⟨some 13, .mv (.t 5), none⟩,
           ⟨some 14, .mv (.t 1), none⟩,
           ⟨some 15, .iad 25 (.t 12) (.t 13), none⟩,
           ⟨some 16, .fad (.t 15) 0, none⟩,
           ⟨none, .st 1 (.t 16) (.t 14), none⟩] none)
         (.seq (.reg [0, 1, 5] [] [
            ⟨some 17, .mv (.t 1), none⟩,
            ⟨some 18, .bin .add (.t 17) (.c (.v false (.int .i64 1))), none⟩,
            ⟨some 1, .mv (.t 18), none⟩] none)
          (.seq (.reg [0, 1, 5] [] [
             ⟨some 19, .mv (.t 0), none⟩,
             ⟨some 20, .mv (.t 5), none⟩,
             ⟨some 21, .mv (.t 1), none⟩,
             ⟨some 22, .iad 25 (.t 19) (.t 20), none⟩,
             ⟨some 23, .fad (.t 22) 1, none⟩,
             ⟨none, .st 1 (.t 23) (.t 21), none⟩] none)
           (.seq (.reg [0, 1, 5] [] [
              ⟨some 24, .mv (.t 1), none⟩,
              ⟨some 25, .bin .add (.t 24) (.c (.v false (.int .i64 1))), none⟩,
              ⟨some 1, .mv (.t 25), none⟩] none)
            (.seq (.reg [0, 1, 5] [] [
               ⟨some 26, .mv (.t 0), none⟩,
               ⟨some 27, .mv (.t 5), none⟩,
               ⟨some 28, .mv (.t 1), none⟩,
               ⟨some 29, .iad 25 (.t 26) (.t 27), none⟩,
               ⟨some 30, .fad (.t 29) 2, none⟩,
               ⟨none, .st 1 (.t 30) (.t 28), none⟩] none)
             (.seq (.reg [0, 1, 5] [] [
                ⟨some 31, .mv (.t 1), none⟩,
                ⟨some 32, .bin .add (.t 31) (.c (.v false (.int .i64 1))), none⟩,
                ⟨some 1, .mv (.t 32), none⟩] none)
              (.seq (.reg [0, 1, 5] [(39, 1)] [
                 ⟨some 33, .mv (.t 0), none⟩,
                 ⟨some 34, .mv (.t 5), none⟩,
                 ⟨some 35, .iad 25 (.t 33) (.t 34), none⟩,
                 ⟨some 36, .fad (.t 35) 3, none⟩,
                 ⟨some 37, .ld false 1 (.t 36), none⟩,
                 ⟨some 38, .mv (.t 1), none⟩,
                 ⟨some 39, .call 197 [0] [(.t 37), (.t 38)], none⟩,
                 ⟨some 1, .mv (.t 39), none⟩] none)
               (.seq (.reg [0, 1, 5] [] [
                  ⟨some 40, .mv (.t 0), none⟩,
                  ⟨some 41, .mv (.t 5), none⟩,
                  ⟨some 42, .mv (.t 1), none⟩,
                  ⟨some 43, .iad 25 (.t 40) (.t 41), none⟩,
                  ⟨some 44, .fad (.t 43) 4, none⟩,
                  ⟨none, .st 1 (.t 44) (.t 42), none⟩] none)
                (.seq (.reg [0, 1, 5] [] [
                   ⟨some 45, .mv (.t 1), none⟩,
                   ⟨some 46, .bin .add (.t 45) (.c (.v false (.int .i64 1))), none⟩,
                   ⟨some 1, .mv (.t 46), none⟩] none)
                 (.seq (.reg [0, 1, 5] [] [
                    ⟨some 47, .mv (.t 0), none⟩,
                    ⟨some 48, .mv (.t 5), none⟩,
                    ⟨some 49, .mv (.t 1), none⟩,
                    ⟨some 50, .iad 25 (.t 47) (.t 48), none⟩,
                    ⟨some 51, .fad (.t 50) 5, none⟩,
                    ⟨some 52, .fad (.t 51) 0, none⟩,
                    ⟨none, .st 1 (.t 52) (.t 49), none⟩] none)
                  (.seq (.reg [0, 1, 5] [] [
                     ⟨some 53, .mv (.t 1), none⟩,
                     ⟨some 54, .bin .add (.t 53) (.c (.v false (.int .i64 1))), none⟩,
                     ⟨some 1, .mv (.t 54), none⟩] none)
                   (.seq (.reg [0, 1, 5] [] [
                      ⟨some 55, .mv (.t 0), none⟩,
                      ⟨some 56, .mv (.t 5), none⟩,
                      ⟨some 57, .mv (.t 1), none⟩,
                      ⟨some 58, .iad 25 (.t 55) (.t 56), none⟩,
                      ⟨some 59, .fad (.t 58) 5, none⟩,
                      ⟨some 60, .fad (.t 59) 1, none⟩,
                      ⟨some 61, .fad (.t 60) 0, none⟩,
                      ⟨none, .st 1 (.t 61) (.t 57), none⟩] none)
                    (.seq (.reg [0, 1, 5] [] [
                       ⟨some 62, .mv (.t 1), none⟩,
                       ⟨some 63, .bin .add (.t 62) (.c (.v false (.int .i64 1))), none⟩,
                       ⟨some 1, .mv (.t 63), none⟩] none)
                     (.seq (.reg [0, 1, 5] [] [
                        ⟨some 64, .mv (.t 0), none⟩,
                        ⟨some 65, .mv (.t 5), none⟩,
                        ⟨some 66, .mv (.t 1), none⟩,
                        ⟨some 67, .iad 25 (.t 64) (.t 65), none⟩,
                        ⟨some 68, .fad (.t 67) 5, none⟩,
                        ⟨some 69, .fad (.t 68) 1, none⟩,
                        ⟨some 70, .fad (.t 69) 1, none⟩,
                        ⟨none, .st 1 (.t 70) (.t 66), none⟩] none)
                      (.seq (.reg [0, 1, 5] [] [
                         ⟨some 71, .mv (.t 1), none⟩,
                         ⟨some 72, .bin .add (.t 71) (.c (.v false (.int .i64 1))), none⟩,
                         ⟨some 1, .mv (.t 72), none⟩] none)
                       (.seq (.reg [0, 1, 5] [] [
                          ⟨some 73, .mv (.t 0), none⟩,
                          ⟨some 74, .mv (.t 5), none⟩,
                          ⟨some 75, .mv (.t 1), none⟩,
                          ⟨some 76, .iad 25 (.t 73) (.t 74), none⟩,
                          ⟨some 77, .fad (.t 76) 5, none⟩,
                          ⟨some 78, .fad (.t 77) 1, none⟩,
                          ⟨some 79, .fad (.t 78) 2, none⟩,
                          ⟨none, .st 1 (.t 79) (.t 75), none⟩] none)
                        (.seq (.reg [0, 1, 5] [] [
                           ⟨some 80, .mv (.t 1), none⟩,
                           ⟨some 81, .bin .add (.t 80) (.c (.v false (.int .i64 1))), none⟩,
                           ⟨some 1, .mv (.t 81), none⟩] none)
                         (.seq (.reg [0, 1, 5] [] [
                            ⟨some 82, .mv (.t 0), none⟩,
                            ⟨some 83, .mv (.t 5), none⟩,
                            ⟨some 84, .mv (.t 1), none⟩,
                            ⟨some 85, .iad 25 (.t 82) (.t 83), none⟩,
                            ⟨some 86, .fad (.t 85) 5, none⟩,
                            ⟨some 87, .fad (.t 86) 1, none⟩,
                            ⟨some 88, .fad (.t 87) 3, none⟩,
                            ⟨some 89, .fad (.t 88) 0, none⟩,
                            ⟨none, .st 1 (.t 89) (.t 84), none⟩] none)
                          (.seq (.reg [0, 1, 5] [] [
                             ⟨some 90, .mv (.t 1), none⟩,
                             ⟨some 91, .bin .add (.t 90) (.c (.v false (.int .i64 1))), none⟩,
                             ⟨some 1, .mv (.t 91), none⟩] none)
                           (.seq (.reg [0, 1, 5] [] [
                              ⟨some 92, .mv (.t 0), none⟩,
                              ⟨some 93, .mv (.t 5), none⟩,
                              ⟨some 94, .mv (.t 1), none⟩,
                              ⟨some 95, .iad 25 (.t 92) (.t 93), none⟩,
                              ⟨some 96, .fad (.t 95) 5, none⟩,
                              ⟨some 97, .fad (.t 96) 1, none⟩,
                              ⟨some 98, .fad (.t 97) 3, none⟩,
                              ⟨some 99, .fad (.t 98) 1, none⟩,
                              ⟨none, .st 1 (.t 99) (.t 94), none⟩] none)
                            (.seq (.reg [0, 1, 5] [] [
                               ⟨some 100, .mv (.t 1), none⟩,
                               ⟨some 101, .bin .add (.t 100) (.c (.v false (.int .i64 1))), none⟩,
                               ⟨some 1, .mv (.t 101), none⟩] none)
                             (.seq (.reg [0, 1, 5] [] [
                                ⟨some 102, .mv (.t 0), none⟩,
                                ⟨some 103, .mv (.t 5), none⟩,
                                ⟨some 104, .mv (.t 1), none⟩,
                                ⟨some 105, .call 196 [] [(.t 104)], none⟩,
                                ⟨some 106, .iad 25 (.t 102) (.t 103), none⟩,
                                ⟨some 107, .fad (.t 106) 5, none⟩,
                                ⟨some 108, .fad (.t 107) 1, none⟩,
                                ⟨some 109, .fad (.t 108) 3, none⟩,
                                ⟨some 110, .fad (.t 109) 2, none⟩,
                                ⟨none, .st 1 (.t 110) (.t 105), none⟩] none)
                              (.seq (.reg [0, 1, 5] [] [
                                 ⟨some 111, .mv (.t 1), none⟩,
                                 ⟨some 112, .bin .add (.t 111) (.c (.v false (.int .i64 1))), none⟩,
                                 ⟨some 1, .mv (.t 112), none⟩] none)
                               (.seq (.reg [0, 1, 5] [(121, 1)] [
                                  ⟨some 113, .mv (.t 0), none⟩,
                                  ⟨some 114, .mv (.t 5), none⟩,
                                  ⟨some 115, .iad 25 (.t 113) (.t 114), none⟩,
                                  ⟨some 116, .fad (.t 115) 5, none⟩,
                                  ⟨some 117, .fad (.t 116) 1, none⟩,
                                  ⟨some 118, .fad (.t 117) 6, none⟩,
                                  ⟨some 119, .ld false 1 (.t 118), none⟩,
                                  ⟨some 120, .mv (.t 1), none⟩,
                                  ⟨some 121, .call 191 [0] [(.t 119), (.t 120)], none⟩,
                                  ⟨some 1, .mv (.t 121), none⟩] none)
                                (.seq (.reg [0, 1, 5] [] [
                                   ⟨some 122, .mv (.t 0), none⟩,
                                   ⟨some 123, .mv (.t 5), none⟩,
                                   ⟨some 124, .mv (.t 1), none⟩,
                                   ⟨some 125, .iad 25 (.t 122) (.t 123), none⟩,
                                   ⟨some 126, .fad (.t 125) 5, none⟩,
                                   ⟨some 127, .fad (.t 126) 8, none⟩,
                                   ⟨none, .st 1 (.t 127) (.t 124), none⟩] none)
                                 (.seq (.reg [0, 1, 5] [] [
                                    ⟨some 128, .mv (.t 1), none⟩,
                                    ⟨some 129, .bin .add (.t 128) (.c (.v false (.int .i64 1))), none⟩,
                                    ⟨some 1, .mv (.t 129), none⟩] none)
                                  (.seq (.reg [0, 1, 5] [(137, 1)] [
                                     ⟨some 130, .mv (.t 0), none⟩,
                                     ⟨some 131, .mv (.t 5), none⟩,
                                     ⟨some 132, .iad 25 (.t 130) (.t 131), none⟩,
                                     ⟨some 133, .fad (.t 132) 5, none⟩,
                                     ⟨some 134, .fad (.t 133) 9, none⟩,
                                     ⟨some 135, .ld false 1 (.t 134), none⟩,
                                     ⟨some 136, .mv (.t 1), none⟩,
                                     ⟨some 137, .call 190 [0] [(.t 135), (.t 136)], none⟩,
                                     ⟨some 1, .mv (.t 137), none⟩] none)
                                   (.seq (.reg [0, 1, 5] [] [
                                      ⟨some 138, .mv (.t 0), none⟩,
                                      ⟨some 139, .mv (.t 5), none⟩,
                                      ⟨some 140, .mv (.t 1), none⟩,
                                      ⟨some 141, .iad 25 (.t 138) (.t 139), none⟩,
                                      ⟨some 142, .fad (.t 141) 15, none⟩,
                                      ⟨none, .st 1 (.t 142) (.t 140), none⟩] none)
                                    (.seq (.reg [0, 1, 5] [] [
                                       ⟨some 143, .mv (.t 1), none⟩,
                                       ⟨some 144, .bin .add (.t 143) (.c (.v false (.int .i64 1))), none⟩,
                                       ⟨some 1, .mv (.t 144), none⟩] none)
                                     (.seq (.reg [0, 1, 5] [] [
                                        ⟨some 145, .mv (.t 0), none⟩,
                                        ⟨some 146, .mv (.t 5), none⟩,
                                        ⟨some 147, .mv (.t 1), none⟩,
                                        ⟨some 148, .iad 25 (.t 145) (.t 146), none⟩,
                                        ⟨some 149, .fad (.t 148) 16, none⟩,
                                        ⟨none, .st 1 (.t 149) (.t 147), none⟩] none)
                                      (.seq (.reg [0, 1, 5] [] [
                                         ⟨some 150, .mv (.t 1), none⟩,
                                         ⟨some 151, .bin .add (.t 150) (.c (.v false (.int .i64 1))), none⟩,
                                         ⟨some 1, .mv (.t 151), none⟩] none)
                                       (.seq (.reg [0, 1, 5] [(158, 1)] [
                                          ⟨some 152, .mv (.t 0), none⟩,
                                          ⟨some 153, .mv (.t 5), none⟩,
                                          ⟨some 154, .iad 25 (.t 152) (.t 153), none⟩,
                                          ⟨some 155, .fad (.t 154) 17, none⟩,
                                          ⟨some 156, .ld false 1 (.t 155), none⟩,
                                          ⟨some 157, .mv (.t 1), none⟩,
                                          ⟨some 158, .call 192 [0] [(.t 156), (.t 157)], none⟩,
                                          ⟨some 1, .mv (.t 158), none⟩] none)
                                        (.seq (.reg [0, 1, 5] [] [
                                           ⟨some 159, .mv (.t 0), none⟩,
                                           ⟨some 160, .mv (.t 5), none⟩,
                                           ⟨some 161, .mv (.t 1), none⟩,
                                           ⟨some 162, .iad 25 (.t 159) (.t 160), none⟩,
                                           ⟨some 163, .fad (.t 162) 18, none⟩,
                                           ⟨none, .st 1 (.t 163) (.t 161), none⟩] none)
                                         (.seq (.reg [0, 1, 5] [] [
                                            ⟨some 164, .mv (.t 1), none⟩,
                                            ⟨some 165, .bin .add (.t 164) (.c (.v false (.int .i64 1))), none⟩,
                                            ⟨some 1, .mv (.t 165), none⟩] none)
                                          (.seq (.reg [0, 1, 5] [] [
                                             ⟨some 166, .mv (.t 0), none⟩,
                                             ⟨some 167, .mv (.t 5), none⟩,
                                             ⟨some 168, .mv (.t 1), none⟩,
                                             ⟨some 169, .iad 25 (.t 166) (.t 167), none⟩,
                                             ⟨some 170, .fad (.t 169) 19, none⟩,
                                             ⟨none, .st 1 (.t 170) (.t 168), none⟩] none)
                                           (.seq (.reg [0, 1, 5] [] [
                                              ⟨some 171, .mv (.t 1), none⟩,
                                              ⟨some 172, .bin .add (.t 171) (.c (.v false (.int .i64 1))), none⟩,
                                              ⟨some 1, .mv (.t 172), none⟩] none)
                                            (.seq (.reg [0, 1, 5] [] [
                                               ⟨some 173, .mv (.t 0), none⟩,
                                               ⟨some 174, .mv (.t 5), none⟩,
                                               ⟨some 175, .mv (.t 1), none⟩,
                                               ⟨some 176, .iad 25 (.t 173) (.t 174), none⟩,
                                               ⟨some 177, .fad (.t 176) 20, none⟩,
                                               ⟨none, .st 1 (.t 177) (.t 175), none⟩] none)
                                             (.seq (.reg [0, 1, 5] [] [
                                                ⟨some 178, .mv (.t 1), none⟩,
                                                ⟨some 179, .bin .add (.t 178) (.c (.v false (.int .i64 1))), none⟩,
                                                ⟨some 1, .mv (.t 179), none⟩] none)
                                              (.seq (.reg [0, 1, 5] [] [
                                                 ⟨some 180, .mv (.t 0), none⟩,
                                                 ⟨some 181, .mv (.t 5), none⟩,
                                                 ⟨some 182, .mv (.t 1), none⟩,
                                                 ⟨some 183, .iad 25 (.t 180) (.t 181), none⟩,
                                                 ⟨some 184, .fad (.t 183) 21, none⟩,
                                                 ⟨none, .st 1 (.t 184) (.t 182), none⟩] none)
                                               (.seq (.reg [0, 1, 5] [] [
                                                  ⟨some 185, .mv (.t 1), none⟩,
                                                  ⟨some 186, .bin .add (.t 185) (.c (.v false (.int .i64 1))), none⟩,
                                                  ⟨some 1, .mv (.t 186), none⟩] none)
                                                (.seq (.reg [0, 1, 5] [] [
                                                   ⟨some 187, .mv (.t 0), none⟩,
                                                   ⟨some 188, .mv (.t 5), none⟩,
                                                   ⟨some 189, .mv (.t 1), none⟩,
                                                   ⟨some 190, .iad 25 (.t 187) (.t 188), none⟩,
                                                   ⟨some 191, .fad (.t 190) 22, none⟩,
                                                   ⟨none, .st 1 (.t 191) (.t 189), none⟩] none)
                                                 (.seq (.reg [0, 1, 5] [] [
                                                    ⟨some 192, .mv (.t 1), none⟩,
                                                    ⟨some 193, .bin .add (.t 192) (.c (.v false (.int .i64 1))), none⟩,
                                                    ⟨some 1, .mv (.t 193), none⟩] none)
                                                  (.seq (.reg [0, 1, 5] [] [
                                                     ⟨some 194, .mv (.t 0), none⟩,
                                                     ⟨some 195, .mv (.t 5), none⟩,
                                                     ⟨some 196, .mv (.t 1), none⟩,
                                                     ⟨some 197, .bin .rem (.t 196) (.c (.v false (.int .i64 3))), none⟩,
                                                     ⟨some 198, .bin .eql (.t 197) (.c (.v false (.int .i64 0))), none⟩,
                                                     ⟨some 199, .iad 25 (.t 194) (.t 195), none⟩,
                                                     ⟨some 200, .fad (.t 199) 23, none⟩,
                                                     ⟨none, .st 1 (.t 200) (.t 198), none⟩] none)
                                                   (.seq (.reg [0, 1, 5] [] [
                                                      ⟨some 201, .mv (.t 1), none⟩,
                                                      ⟨some 202, .bin .add (.t 201) (.c (.v false (.int .i64 1))), none⟩,
                                                      ⟨some 1, .mv (.t 202), none⟩] none)
                                                    (.reg [0, 1, 5] [(209, 1)] [
                                                      ⟨some 203, .mv (.t 0), none⟩,
                                                      ⟨some 204, .mv (.t 5), none⟩,
                                                      ⟨some 205, .iad 25 (.t 203) (.t 204), none⟩,
                                                      ⟨some 206, .fad (.t 205) 24, none⟩,
                                                      ⟨some 207, .ld false 1 (.t 206), none⟩,
                                                      ⟨some 208, .mv (.t 1), none⟩,
                                                      ⟨some 209, .call 193 [0] [(.t 207), (.t 208)], none⟩,
                                                      ⟨some 1, .mv (.t 209), none⟩] none))))))))))))))))))))))))))))))))))))))))))))))
       (.reg [0, 1, 5] [] [
         ⟨some 10, .mv (.t 5), none⟩,
         ⟨some 11, .bin .add (.t 10) (.c (.v false (.int .i64 1))), none⟩,
         ⟨some 5, .mv (.t 11), none⟩] none))

def pb195 : PC :=
.seq (.reg [0, 1] [] [
   ⟨some 4, .mv (.c (.v false (.int .i64 0))), none⟩] none)
 (.seq (.seq (.reg [0, 1, 5] [] [
     ⟨some 5, .mv (.c (.v false (.int .i64 0))), none⟩] none)
   (.blk 0 (.loop pl195_0)))
  (.seq (.reg [0, 1, 4] [] [
     ⟨some 210, .mv (.t 1), none⟩,
     ⟨some 4, .mv (.t 210), none⟩] none)
   (.ret)))

def pf195 : PF := ⟨[.s 4], [0], pb195⟩

-- loop.example/g00496/laws.markText
def pl196_0 : PC :=
.seq (.seq (.reg [0, 3, 7] [] [
          ⟨some 6, .mv (.t 0), none⟩,
          ⟨some 7, .bin .gtr (.t 6) (.c (.v false (.int .i64 0))), none⟩] none)
        (.cond (.t 7) (.skip)
         (.exit 0)))
       (.blk 1 (.seq (.reg [0, 3] [] [
           ⟨some 8, .mv (.t 0), none⟩,
           ⟨some 9, .bin .rem (.t 8) (.c (.v false (.int .i64 10))), none⟩,
           ⟨some 10, .bin .add (.c (.v false (.int .i64 48))) (.t 9), none⟩,
           ⟨some 11, .cvi .u8 (.t 10), none⟩,
           ⟨some 12, .bsl 1 [.int .u8 0] 1 [(0, (.t 11))], none⟩,
           ⟨some 13, .cvs (.t 12), none⟩,
           ⟨some 14, .mv (.t 3), none⟩,
           ⟨some 15, .bin .add (.t 13) (.t 14), none⟩,
           ⟨some 3, .mv (.t 15), none⟩] none)
         (.reg [0, 3] [] [
           ⟨some 16, .mv (.t 0), none⟩,
           ⟨some 17, .bin .quo (.t 16) (.c (.v false (.int .i64 10))), none⟩,
           ⟨some 0, .mv (.t 17), none⟩] none)))

def pb196 : PC :=
.seq (.reg [0] [] [
   ⟨some 2, .mv (.c (.v false (.str ⟨#[]⟩))), none⟩] none)
 (.seq (.seq (.reg [0, 5] [] [
     ⟨some 4, .mv (.t 0), none⟩,
     ⟨some 5, .bin .leq (.t 4) (.c (.v false (.int .i64 0))), none⟩] none)
   (.cond (.t 5) (.seq (.reg [2] [] [
       ⟨some 2, .mv (.c (.v false (.str ⟨#[109, 48]⟩))), none⟩] none)
     (.ret))
    (.skip)))
  (.seq (.reg [0, 3] [] [
     ⟨some 3, .mv (.c (.v false (.str ⟨#[]⟩))), none⟩] none)
   (.seq (.blk 0 (.loop pl196_0))
    (.seq (.reg [2] [] [
       ⟨some 18, .mv (.t 3), none⟩,
       ⟨some 19, .bin .add (.c (.v false (.str ⟨#[109]⟩))) (.t 18), none⟩,
       ⟨some 2, .mv (.t 19), none⟩] none)
     (.ret)))))

def pf196 : PF := ⟨[.s 2], [], pb196⟩

-- loop.example/g00496/laws.markValS
def pl197_0 : PC :=
.seq (.seq (.reg [0, 1, 5, 9] [] [
         ⟨some 6, .mv (.t 5), none⟩,
         ⟨some 7, .mv (.t 0), none⟩,
         ⟨some 8, .len (.t 7), none⟩,
         ⟨some 9, .bin .lss (.t 6) (.t 8), none⟩] none)
       (.cond (.t 9) (.skip)
        (.exit 0)))
      (.seq (.blk 1 (.seq (.reg [0, 1, 5] [] [
           ⟨some 12, .mv (.t 0), none⟩,
           ⟨some 13, .mv (.t 5), none⟩,
           ⟨some 14, .mv (.t 1), none⟩,
           ⟨some 15, .iad 3 (.t 12) (.t 13), none⟩,
           ⟨some 16, .fad (.t 15) 0, none⟩,
           ⟨none, .st 1 (.t 16) (.t 14), none⟩] none)
         (.seq (.reg [0, 1, 5] [] [
            ⟨some 17, .mv (.t 1), none⟩,
            ⟨some 18, .bin .add (.t 17) (.c (.v false (.int .i64 1))), none⟩,
            ⟨some 1, .mv (.t 18), none⟩] none)
          (.seq (.reg [0, 1, 5] [] [
             ⟨some 19, .mv (.t 0), none⟩,
             ⟨some 20, .mv (.t 5), none⟩,
             ⟨some 21, .mv (.t 1), none⟩,
             ⟨some 22, .iad 3 (.t 19) (.t 20), none⟩,
             ⟨some 23, .fad (.t 22) 1, none⟩,
             ⟨none, .st 1 (.t 23) (.t 21), none⟩] none)
           (.seq (.reg [0, 1, 5] [] [
              ⟨some 24, .mv (.t 1), none⟩,
              ⟨some 25, .bin .add (.t 24) (.c (.v false (.int .i64 1))), none⟩,
              ⟨some 1, .mv (.t 25), none⟩] none)
            (.seq (.reg [0, 1, 5] [] [
               ⟨some 26, .mv (.t 0), none⟩,
               ⟨some 27, .mv (.t 5), none⟩,
               ⟨some 28, .mv (.t 1), none⟩,
               ⟨some 29, .call 196 [] [(.t 28)], none⟩,
               ⟨some 30, .iad 3 (.t 26) (.t 27), none⟩,
               ⟨some 31, .fad (.t 30) 2, none⟩,
               ⟨none, .st 1 (.t 31) (.t 29), none⟩] none)
             (.reg [0, 1, 5] [] [
               ⟨some 32, .mv (.t 1), none⟩,
               ⟨some 33, .bin .add (.t 32) (.c (.v false (.int .i64 1))), none⟩,
               ⟨some 1, .mv (.t 33), none⟩] none)))))))
       (.reg [0, 1, 5] [] [
         ⟨some 10, .mv (.t 5), none⟩,
         ⟨some 11, .bin .add (.t 10) (.c (.v false (.int .i64 1))), none⟩,
         ⟨some 5, .mv (.t 11), none⟩] none))

def pb197 : PC :=
.seq (.reg [0, 1] [] [
   ⟨some 4, .mv (.c (.v false (.int .i64 0))), none⟩] none)
 (.seq (.seq (.reg [0, 1, 5] [] [
     ⟨some 5, .mv (.c (.v false (.int .i64 0))), none⟩] none)
   (.blk 0 (.loop pl197_0)))
  (.seq (.reg [0, 4] [] [
     ⟨some 34, .mv (.t 1), none⟩,
     ⟨some 4, .mv (.t 34), none⟩] none)
   (.ret)))

def pf197 : PF := ⟨[.s 4], [0], pb197⟩

-- loop.example/g00496/laws.markWorld
def pb198 : PC :=
.seq (.reg [0, 1, 2] [] [
   ⟨some 2, .box 14 (.t 0), none⟩,
   ⟨some 4, .mv (.c (.v false (.int .i64 0))), none⟩] none)
 (.seq (.reg [0, 1, 2] [(8, 1)] [
    ⟨some 5, .fad (.t 2) 0, none⟩,
    ⟨some 6, .ld true 3 (.t 5), none⟩,
    ⟨some 7, .mv (.t 1), none⟩,
    ⟨some 8, .call 186 [0] [(.t 6), (.t 7)], none⟩,
    ⟨some 1, .mv (.t 8), none⟩] none)
  (.seq (.reg [0, 1, 2] [(12, 1)] [
     ⟨some 9, .fad (.t 2) 6, none⟩,
     ⟨some 10, .ld true 2 (.t 9), none⟩,
     ⟨some 11, .mv (.t 1), none⟩,
     ⟨some 12, .call 189 [0] [(.t 10), (.t 11)], none⟩,
     ⟨some 1, .mv (.t 12), none⟩] none)
   (.seq (.reg [0, 1, 2] [(16, 1)] [
      ⟨some 13, .fad (.t 2) 8, none⟩,
      ⟨some 14, .ld false 1 (.t 13), none⟩,
      ⟨some 15, .mv (.t 1), none⟩,
      ⟨some 16, .call 183 [0] [(.t 14), (.t 15)], none⟩,
      ⟨some 1, .mv (.t 16), none⟩] none)
    (.seq (.reg [0, 1, 2] [(20, 1)] [
       ⟨some 17, .fad (.t 2) 9, none⟩,
       ⟨some 18, .ld false 1 (.t 17), none⟩,
       ⟨some 19, .mv (.t 1), none⟩,
       ⟨some 20, .call 190 [0] [(.t 18), (.t 19)], none⟩,
       ⟨some 1, .mv (.t 20), none⟩] none)
     (.seq (.reg [0, 1, 2] [(24, 1)] [
        ⟨some 21, .fad (.t 2) 10, none⟩,
        ⟨some 22, .ld false 1 (.t 21), none⟩,
        ⟨some 23, .mv (.t 1), none⟩,
        ⟨some 24, .call 187 [0] [(.t 22), (.t 23)], none⟩,
        ⟨some 1, .mv (.t 24), none⟩] none)
      (.seq (.reg [0, 1, 2] [(28, 1)] [
         ⟨some 25, .fad (.t 2) 11, none⟩,
         ⟨some 26, .ld false 1 (.t 25), none⟩,
         ⟨some 27, .mv (.t 1), none⟩,
         ⟨some 28, .call 190 [0] [(.t 26), (.t 27)], none⟩,
         ⟨some 1, .mv (.t 28), none⟩] none)
       (.seq (.reg [0, 1, 2] [(32, 1)] [
          ⟨some 29, .fad (.t 2) 12, none⟩,
          ⟨some 30, .ld false 1 (.t 29), none⟩,
          ⟨some 31, .mv (.t 1), none⟩,
          ⟨some 32, .call 195 [0] [(.t 30), (.t 31)], none⟩,
          ⟨some 1, .mv (.t 32), none⟩] none)
        (.seq (.reg [0, 1] [(36, 1)] [
           ⟨some 33, .fad (.t 2) 13, none⟩,
           ⟨some 34, .ld false 1 (.t 33), none⟩,
           ⟨some 35, .mv (.t 1), none⟩,
           ⟨some 36, .call 188 [0] [(.t 34), (.t 35)], none⟩,
           ⟨some 1, .mv (.t 36), none⟩] none)
         (.seq (.reg [0, 1, 4] [] [
            ⟨some 37, .mv (.t 1), none⟩,
            ⟨some 4, .mv (.t 37), none⟩] none)
          (.ret))))))))))

def pf198 : PF := ⟨[.s 4], [0], pb198⟩

-- loop.example/g00496/laws.szBuf
def pb210 : PC :=
.seq (.reg [1, 2] [] [
   ⟨some 2, .box 5 (.t 0), none⟩,
   ⟨some 4, .mv (.c (.v false (.int .i64 0))), none⟩] none)
 (.seq (.reg [1, 2] [(8, 1)] [
    ⟨some 5, .fad (.t 2) 2, none⟩,
    ⟨some 6, .ld true 2 (.t 5), none⟩,
    ⟨some 7, .mv (.t 1), none⟩,
    ⟨some 8, .call 213 [] [(.t 6), (.t 7)], none⟩,
    ⟨some 1, .mv (.t 8), none⟩] none)
  (.seq (.seq (.reg [1, 2, 10] [] [
      ⟨some 9, .mv (.t 1), none⟩,
      ⟨some 10, .bin .lss (.t 9) (.c (.v false (.int .i64 0))), none⟩] none)
    (.cond (.t 10) (.seq (.reg [4] [] [
        ⟨some 4, .mv (.c (.v false (.int .i64 (-1)))), none⟩] none)
      (.ret))
     (.skip)))
   (.seq (.reg [1] [(14, 1)] [
      ⟨some 11, .fad (.t 2) 4, none⟩,
      ⟨some 12, .ld false 1 (.t 11), none⟩,
      ⟨some 13, .mv (.t 1), none⟩,
      ⟨some 14, .call 212 [] [(.t 12), (.t 13)], none⟩,
      ⟨some 1, .mv (.t 14), none⟩] none)
    (.seq (.seq (.reg [1, 16] [] [
        ⟨some 15, .mv (.t 1), none⟩,
        ⟨some 16, .bin .lss (.t 15) (.c (.v false (.int .i64 0))), none⟩] none)
      (.cond (.t 16) (.seq (.reg [4] [] [
          ⟨some 4, .mv (.c (.v false (.int .i64 (-1)))), none⟩] none)
        (.ret))
       (.skip)))
     (.seq (.reg [1, 4] [] [
        ⟨some 17, .mv (.t 1), none⟩,
        ⟨some 4, .mv (.t 17), none⟩] none)
      (.ret))))))

def pf210 : PF := ⟨[.s 4], [], pb210⟩

-- loop.example/g00496/laws.szBufS
def pl211_0 : PC :=
.seq (.seq (.reg [0, 1, 5, 15] [] [
           ⟨some 12, .mv (.t 5), none⟩,
           ⟨some 13, .mv (.t 0), none⟩,
           ⟨some 14, .len (.t 13), none⟩,
           ⟨some 15, .bin .lss (.t 12) (.t 14), none⟩] none)
         (.cond (.t 15) (.skip)
          (.exit 0)))
        (.seq (.blk 1 (.seq (.reg [0, 1, 5] [(23, 1)] [
             ⟨some 18, .mv (.t 0), none⟩,
             ⟨some 19, .mv (.t 5), none⟩,
             ⟨some 20, .iad 5 (.t 18) (.t 19), none⟩,
             ⟨some 21, .ld true 5 (.t 20), none⟩,
             ⟨some 22, .mv (.t 1), none⟩,
             ⟨some 23, .call 210 [] [(.t 21), (.t 22)], none⟩,
             ⟨some 1, .mv (.t 23), none⟩] none)
           (.seq (.reg [0, 1, 5, 25] [] [
              ⟨some 24, .mv (.t 1), none⟩,
              ⟨some 25, .bin .lss (.t 24) (.c (.v false (.int .i64 0))), none⟩] none)
            (.cond (.t 25) (.seq (.reg [4] [] [
                ⟨some 4, .mv (.c (.v false (.int .i64 (-1)))), none⟩] none)
              (.ret))
             (.skip)))))
         (.reg [0, 1, 5] [] [
           ⟨some 16, .mv (.t 5), none⟩,
           ⟨some 17, .bin .add (.t 16) (.c (.v false (.int .i64 1))), none⟩,
           ⟨some 5, .mv (.t 17), none⟩] none))

def pb211 : PC :=
.seq (.reg [0, 1] [] [
   ⟨some 4, .mv (.c (.v false (.int .i64 0))), none⟩] none)
 (.seq (.reg [0, 1] [] [
    ⟨some 6, .mv (.t 1), none⟩,
    ⟨some 7, .mv (.t 0), none⟩,
    ⟨some 8, .len (.t 7), none⟩,
    ⟨some 9, .bin .sub (.t 6) (.t 8), none⟩,
    ⟨some 1, .mv (.t 9), none⟩] none)
  (.seq (.seq (.reg [0, 1, 11] [] [
      ⟨some 10, .mv (.t 1), none⟩,
      ⟨some 11, .bin .lss (.t 10) (.c (.v false (.int .i64 0))), none⟩] none)
    (.cond (.t 11) (.seq (.reg [4] [] [
        ⟨some 4, .mv (.c (.v false (.int .i64 (-1)))), none⟩] none)
      (.ret))
     (.skip)))
   (.seq (.seq (.reg [0, 1, 5] [] [
       ⟨some 5, .mv (.c (.v false (.int .i64 0))), none⟩] none)
     (.blk 0 (.loop pl211_0)))
    (.seq (.reg [1, 4] [] [
       ⟨some 26, .mv (.t 1), none⟩,
       ⟨some 4, .mv (.t 26), none⟩] none)
     (.ret)))))

def pf211 : PF := ⟨[.s 4], [], pb211⟩

-- loop.example/g00496/laws.szByteS
def pb212 : PC :=
.seq (.reg [0, 1] [] [
   ⟨some 4, .mv (.c (.v false (.int .i64 0))), none⟩] none)
 (.seq (.reg [1] [] [
    ⟨some 5, .mv (.t 1), none⟩,
    ⟨some 6, .mv (.t 0), none⟩,
    ⟨some 7, .len (.t 6), none⟩,
    ⟨some 8, .bin .sub (.t 5) (.t 7), none⟩,
    ⟨some 1, .mv (.t 8), none⟩] none)
  (.seq (.seq (.reg [1, 10] [] [
      ⟨some 9, .mv (.t 1), none⟩,
      ⟨some 10, .bin .lss (.t 9) (.c (.v false (.int .i64 0))), none⟩] none)
    (.cond (.t 10) (.seq (.reg [4] [] [
        ⟨some 4, .mv (.c (.v false (.int .i64 (-1)))), none⟩] none)
      (.ret))
     (.skip)))
   (.seq (.reg [4] [] [
      ⟨some 11, .mv (.t 1), none⟩,
      ⟨some 4, .mv (.t 11), none⟩] none)
    (.ret))))

def pf212 : PF := ⟨[.s 4], [], pb212⟩

-- loop.example/g00496/laws.szChunk
def pb213 : PC :=
.seq (.reg [1, 2] [] [
   ⟨some 2, .box 2 (.t 0), none⟩,
   ⟨some 4, .mv (.c (.v false (.int .i64 0))), none⟩] none)
 (.seq (.reg [1] [(8, 1)] [
    ⟨some 5, .fad (.t 2) 1, none⟩,
    ⟨some 6, .ld false 1 (.t 5), none⟩,
    ⟨some 7, .mv (.t 1), none⟩,
    ⟨some 8, .call 228 [] [(.t 6), (.t 7)], none⟩,
    ⟨some 1, .mv (.t 8), none⟩] none)
  (.seq (.seq (.reg [1, 10] [] [
      ⟨some 9, .mv (.t 1), none⟩,
      ⟨some 10, .bin .lss (.t 9) (.c (.v false (.int .i64 0))), none⟩] none)
    (.cond (.t 10) (.seq (.reg [4] [] [
        ⟨some 4, .mv (.c (.v false (.int .i64 (-1)))), none⟩] none)
      (.ret))
     (.skip)))
   (.seq (.reg [1, 4] [] [
      ⟨some 11, .mv (.t 1), none⟩,
      ⟨some 4, .mv (.t 11), none⟩] none)
    (.ret))))

def pf213 : PF := ⟨[.s 4], [], pb213⟩

-- loop.example/g00496/laws.szConf
def pb214 : PC :=
.seq (.reg [1, 2] [] [
   ⟨some 2, .box 3 (.t 0), none⟩,
   ⟨some 4, .mv (.c (.v false (.int .i64 0))), none⟩] none)
 (.seq (.reg [1] [(8, 1)] [
    ⟨some 5, .fad (.t 2) 0, none⟩,
    ⟨some 6, .ld false 1 (.t 5), none⟩,
    ⟨some 7, .mv (.t 1), none⟩,
    ⟨some 8, .call 219 [] [(.t 6), (.t 7)], none⟩,
    ⟨some 1, .mv (.t 8), none⟩] none)
  (.seq (.seq (.reg [1, 10] [] [
      ⟨some 9, .mv (.t 1), none⟩,
      ⟨some 10, .bin .lss (.t 9) (.c (.v false (.int .i64 0))), none⟩] none)
    (.cond (.t 10) (.seq (.reg [4] [] [
        ⟨some 4, .mv (.c (.v false (.int .i64 (-1)))), none⟩] none)
      (.ret))
     (.skip)))
   (.seq (.reg [1, 4] [] [
      ⟨some 11, .mv (.t 1), none⟩,
      ⟨some 4, .mv (.t 11), none⟩] none)
    (.ret))))

def pf214 : PF := ⟨[.s 4], [], pb214⟩

-- loop.example/g00496/laws.szDeadS
def pb215 : PC :=
.seq (.reg [0, 1] [] [
   ⟨some 4, .mv (.c (.v false (.int .i64 0))), none⟩] none)
 (.seq (.reg [1] [] [
    ⟨some 5, .mv (.t 1), none⟩,
    ⟨some 6, .mv (.t 0), none⟩,
    ⟨some 7, .len (.t 6), none⟩,
    ⟨some 8, .bin .sub (.t 5) (.t 7), none⟩,
    ⟨some 1, .mv (.t 8), none⟩] none)
  (.seq (.seq (.reg [1, 10] [] [
      ⟨some 9, .mv (.t 1), none⟩,
      ⟨some 10, .bin .lss (.t 9) (.c (.v false (.int .i64 0))), none⟩] none)
    (.cond (.t 10) (.seq (.reg [4] [] [
        ⟨some 4, .mv (.c (.v false (.int .i64 (-1)))), none⟩] none)
      (.ret))
     (.skip)))
   (.seq (.reg [4] [] [
      ⟨some 11, .mv (.t 1), none⟩,
      ⟨some 4, .mv (.t 11), none⟩] none)
    (.ret))))

def pf215 : PF := ⟨[.s 4], [], pb215⟩

-- loop.example/g00496/laws.szDeed
def pb216 : PC :=
.seq (.reg [1, 2] [] [
   ⟨some 2, .box 25 (.t 0), none⟩,
   ⟨some 4, .mv (.c (.v false (.int .i64 0))), none⟩] none)
 (.seq (.reg [1, 2] [(8, 1)] [
    ⟨some 5, .fad (.t 2) 2, none⟩,
    ⟨some 6, .ld false 1 (.t 5), none⟩,
    ⟨some 7, .mv (.t 1), none⟩,
    ⟨some 8, .call 232 [] [(.t 6), (.t 7)], none⟩,
    ⟨some 1, .mv (.t 8), none⟩] none)
  (.seq (.seq (.reg [1, 2, 10] [] [
      ⟨some 9, .mv (.t 1), none⟩,
      ⟨some 10, .bin .lss (.t 9) (.c (.v false (.int .i64 0))), none⟩] none)
    (.cond (.t 10) (.seq (.reg [4] [] [
        ⟨some 4, .mv (.c (.v false (.int .i64 (-1)))), none⟩] none)
      (.ret))
     (.skip)))
   (.seq (.reg [1, 2] [(14, 1)] [
      ⟨some 11, .fad (.t 2) 4, none⟩,
      ⟨some 12, .ld true 10 (.t 11), none⟩,
      ⟨some 13, .mv (.t 1), none⟩,
      ⟨some 14, .call 222 [] [(.t 12), (.t 13)], none⟩,
      ⟨some 1, .mv (.t 14), none⟩] none)
    (.seq (.seq (.reg [1, 2, 16] [] [
        ⟨some 15, .mv (.t 1), none⟩,
        ⟨some 16, .bin .lss (.t 15) (.c (.v false (.int .i64 0))), none⟩] none)
      (.cond (.t 16) (.seq (.reg [4] [] [
          ⟨some 4, .mv (.c (.v false (.int .i64 (-1)))), none⟩] none)
        (.ret))
       (.skip)))
     (.seq (.reg [1] [(20, 1)] [
        ⟨some 17, .fad (.t 2) 14, none⟩,
        ⟨some 18, .ld true 6 (.t 17), none⟩,
        ⟨some 19, .mv (.t 1), none⟩,
        ⟨some 20, .call 224 [] [(.t 18), (.t 19)], none⟩,
        ⟨some 1, .mv (.t 20), none⟩] none)
      (.seq (.seq (.reg [1, 22] [] [
          ⟨some 21, .mv (.t 1), none⟩,
          ⟨some 22, .bin .lss (.t 21) (.c (.v false (.int .i64 0))), none⟩] none)
        (.cond (.t 22) (.seq (.reg [4] [] [
            ⟨some 4, .mv (.c (.v false (.int .i64 (-1)))), none⟩] none)
          (.ret))
         (.skip)))
       (.seq (.reg [1, 4] [] [
          ⟨some 23, .mv (.t 1), none⟩,
          ⟨some 4, .mv (.t 23), none⟩] none)
        (.ret))))))))

def pf216 : PF := ⟨[.s 4], [], pb216⟩

-- loop.example/g00496/laws.szDeedS
def pl217_0 : PC :=
.seq (.seq (.reg [0, 1, 5, 15] [] [
           ⟨some 12, .mv (.t 5), none⟩,
           ⟨some 13, .mv (.t 0), none⟩,
           ⟨some 14, .len (.t 13), none⟩,
           ⟨some 15, .bin .lss (.t 12) (.t 14), none⟩] none)
         (.cond (.t 15) (.skip)
          (.exit 0)))
        (.seq (.blk 1 (.seq (.reg [0, 1, 5] [(23, 1)] [
             ⟨some 18, .mv (.t 0), none⟩,
             ⟨some 19, .mv (.t 5), none⟩,
             ⟨some 20, .iad 25 (.t 18) (.t 19), none⟩,
             ⟨some 21, .ld true 25 (.t 20), none⟩,
             ⟨some 22, .mv (.t 1), none⟩,
             ⟨some 23, .call 216 [] [(.t 21), (.t 22)], none⟩,
             ⟨some 1, .mv (.t 23), none⟩] none)
           (.seq (.reg [0, 1, 5, 25] [] [
              ⟨some 24, .mv (.t 1), none⟩,
              ⟨some 25, .bin .lss (.t 24) (.c (.v false (.int .i64 0))), none⟩] none)
            (.cond (.t 25) (.seq (.reg [4] [] [
                ⟨some 4, .mv (.c (.v false (.int .i64 (-1)))), none⟩] none)
              (.ret))
             (.skip)))))
         (.reg [0, 1, 5] [] [
           ⟨some 16, .mv (.t 5), none⟩,
           ⟨some 17, .bin .add (.t 16) (.c (.v false (.int .i64 1))), none⟩,
           ⟨some 5, .mv (.t 17), none⟩] none))

def pb217 : PC :=
.seq (.reg [0, 1] [] [
   ⟨some 4, .mv (.c (.v false (.int .i64 0))), none⟩] none)
 (.seq (.reg [0, 1] [] [
    ⟨some 6, .mv (.t 1), none⟩,
    ⟨some 7, .mv (.t 0), none⟩,
    ⟨some 8, .len (.t 7), none⟩,
    ⟨some 9, .bin .sub (.t 6) (.t 8), none⟩,
    ⟨some 1, .mv (.t 9), none⟩] none)
  (.seq (.seq (.reg [0, 1, 11] [] [
      ⟨some 10, .mv (.t 1), none⟩,
      ⟨some 11, .bin .lss (.t 10) (.c (.v false (.int .i64 0))), none⟩] none)
    (.cond (.t 11) (.seq (.reg [4] [] [
        ⟨some 4, .mv (.c (.v false (.int .i64 (-1)))), none⟩] none)
      (.ret))
     (.skip)))
   (.seq (.seq (.reg [0, 1, 5] [] [
       ⟨some 5, .mv (.c (.v false (.int .i64 0))), none⟩] none)
     (.blk 0 (.loop pl217_0)))
    (.seq (.reg [1, 4] [] [
       ⟨some 26, .mv (.t 1), none⟩,
       ⟨some 4, .mv (.t 26), none⟩] none)
     (.ret)))))

def pf217 : PF := ⟨[.s 4], [], pb217⟩

-- loop.example/g00496/laws.szDir
def pb218 : PC :=
.seq (.reg [1, 2] [] [
   ⟨some 2, .box 2 (.t 0), none⟩,
   ⟨some 4, .mv (.c (.v false (.int .i64 0))), none⟩] none)
 (.seq (.reg [1] [(8, 1)] [
    ⟨some 5, .fad (.t 2) 1, none⟩,
    ⟨some 6, .ld false 1 (.t 5), none⟩,
    ⟨some 7, .mv (.t 1), none⟩,
    ⟨some 8, .call 223 [] [(.t 6), (.t 7)], none⟩,
    ⟨some 1, .mv (.t 8), none⟩] none)
  (.seq (.seq (.reg [1, 10] [] [
      ⟨some 9, .mv (.t 1), none⟩,
      ⟨some 10, .bin .lss (.t 9) (.c (.v false (.int .i64 0))), none⟩] none)
    (.cond (.t 10) (.seq (.reg [4] [] [
        ⟨some 4, .mv (.c (.v false (.int .i64 (-1)))), none⟩] none)
      (.ret))
     (.skip)))
   (.seq (.reg [1, 4] [] [
      ⟨some 11, .mv (.t 1), none⟩,
      ⟨some 4, .mv (.t 11), none⟩] none)
    (.ret))))

def pf218 : PF := ⟨[.s 4], [], pb218⟩

-- loop.example/g00496/laws.szIntS
def pb219 : PC :=
.seq (.reg [0, 1] [] [
   ⟨some 4, .mv (.c (.v false (.int .i64 0))), none⟩] none)
 (.seq (.reg [1] [] [
    ⟨some 5, .mv (.t 1), none⟩,
    ⟨some 6, .mv (.t 0), none⟩,
    ⟨some 7, .len (.t 6), none⟩,
    ⟨some 8, .bin .sub (.t 5) (.t 7), none⟩,
    ⟨some 1, .mv (.t 8), none⟩] none)
  (.seq (.seq (.reg [1, 10] [] [
      ⟨some 9, .mv (.t 1), none⟩,
      ⟨some 10, .bin .lss (.t 9) (.c (.v false (.int .i64 0))), none⟩] none)
    (.cond (.t 10) (.seq (.reg [4] [] [
        ⟨some 4, .mv (.c (.v false (.int .i64 (-1)))), none⟩] none)
      (.ret))
     (.skip)))
   (.seq (.reg [4] [] [
      ⟨some 11, .mv (.t 1), none⟩,
      ⟨some 4, .mv (.t 11), none⟩] none)
    (.ret))))

def pf219 : PF := ⟨[.s 4], [], pb219⟩

-- loop.example/g00496/laws.szPred
def pb220 : PC :=
.seq (.reg [1, 2] [] [
   ⟨some 2, .box 7 (.t 0), none⟩,
   ⟨some 4, .mv (.c (.v false (.int .i64 0))), none⟩] none)
 (.seq (.reg [1, 2] [(8, 1)] [
    ⟨some 5, .fad (.t 2) 3, none⟩,
    ⟨some 6, .ld true 3 (.t 5), none⟩,
    ⟨some 7, .mv (.t 1), none⟩,
    ⟨some 8, .call 231 [] [(.t 6), (.t 7)], none⟩,
    ⟨some 1, .mv (.t 8), none⟩] none)
  (.seq (.seq (.reg [1, 2, 10] [] [
      ⟨some 9, .mv (.t 1), none⟩,
      ⟨some 10, .bin .lss (.t 9) (.c (.v false (.int .i64 0))), none⟩] none)
    (.cond (.t 10) (.seq (.reg [4] [] [
        ⟨some 4, .mv (.c (.v false (.int .i64 (-1)))), none⟩] none)
      (.ret))
     (.skip)))
   (.seq (.reg [1] [(14, 1)] [
      ⟨some 11, .fad (.t 2) 6, none⟩,
      ⟨some 12, .ld false 1 (.t 11), none⟩,
      ⟨some 13, .mv (.t 1), none⟩,
      ⟨some 14, .call 221 [] [(.t 12), (.t 13)], none⟩,
      ⟨some 1, .mv (.t 14), none⟩] none)
    (.seq (.seq (.reg [1, 16] [] [
        ⟨some 15, .mv (.t 1), none⟩,
        ⟨some 16, .bin .lss (.t 15) (.c (.v false (.int .i64 0))), none⟩] none)
      (.cond (.t 16) (.seq (.reg [4] [] [
          ⟨some 4, .mv (.c (.v false (.int .i64 (-1)))), none⟩] none)
        (.ret))
       (.skip)))
     (.seq (.reg [1, 4] [] [
        ⟨some 17, .mv (.t 1), none⟩,
        ⟨some 4, .mv (.t 17), none⟩] none)
      (.ret))))))

def pf220 : PF := ⟨[.s 4], [], pb220⟩

-- loop.example/g00496/laws.szPredS
def pl221_0 : PC :=
.seq (.seq (.reg [0, 1, 5, 15] [] [
           ⟨some 12, .mv (.t 5), none⟩,
           ⟨some 13, .mv (.t 0), none⟩,
           ⟨some 14, .len (.t 13), none⟩,
           ⟨some 15, .bin .lss (.t 12) (.t 14), none⟩] none)
         (.cond (.t 15) (.skip)
          (.exit 0)))
        (.seq (.blk 1 (.seq (.reg [0, 1, 5] [(23, 1)] [
             ⟨some 18, .mv (.t 0), none⟩,
             ⟨some 19, .mv (.t 5), none⟩,
             ⟨some 20, .iad 7 (.t 18) (.t 19), none⟩,
             ⟨some 21, .ld true 7 (.t 20), none⟩,
             ⟨some 22, .mv (.t 1), none⟩,
             ⟨some 23, .call 220 [] [(.t 21), (.t 22)], none⟩,
             ⟨some 1, .mv (.t 23), none⟩] none)
           (.seq (.reg [0, 1, 5, 25] [] [
              ⟨some 24, .mv (.t 1), none⟩,
              ⟨some 25, .bin .lss (.t 24) (.c (.v false (.int .i64 0))), none⟩] none)
            (.cond (.t 25) (.seq (.reg [4] [] [
                ⟨some 4, .mv (.c (.v false (.int .i64 (-1)))), none⟩] none)
              (.ret))
             (.skip)))))
         (.reg [0, 1, 5] [] [
           ⟨some 16, .mv (.t 5), none⟩,
           ⟨some 17, .bin .add (.t 16) (.c (.v false (.int .i64 1))), none⟩,
           ⟨some 5, .mv (.t 17), none⟩] none))

def pb221 : PC :=
.seq (.reg [0, 1] [] [
   ⟨some 4, .mv (.c (.v false (.int .i64 0))), none⟩] none)
 (.seq (.reg [0, 1] [] [
    ⟨some 6, .mv (.t 1), none⟩,
    ⟨some 7, .mv (.t 0), none⟩,
    ⟨some 8, .len (.t 7), none⟩,
    ⟨some 9, .bin .sub (.t 6) (.t 8), none⟩,
    ⟨some 1, .mv (.t 9), none⟩] none)
  (.seq (.seq (.reg [0, 1, 11] [] [
      ⟨some 10, .mv (.t 1), none⟩,
      ⟨some 11, .bin .lss (.t 10) (.c (.v false (.int .i64 0))), none⟩] none)
    (.cond (.t 11) (.seq (.reg [4] [] [
        ⟨some 4, .mv (.c (.v false (.int .i64 (-1)))), none⟩] none)
      (.ret))
     (.skip)))
   (.seq (.seq (.reg [0, 1, 5] [] [
       ⟨some 5, .mv (.c (.v false (.int .i64 0))), none⟩] none)
     (.blk 0 (.loop pl221_0)))
    (.seq (.reg [1, 4] [] [
       ⟨some 26, .mv (.t 1), none⟩,
       ⟨some 4, .mv (.t 26), none⟩] none)
     (.ret)))))

def pf221 : PF := ⟨[.s 4], [], pb221⟩

-- loop.example/g00496/laws.szQuery
def pb222 : PC :=
.seq (.reg [1, 2] [] [
   ⟨some 2, .box 10 (.t 0), none⟩,
   ⟨some 4, .mv (.c (.v false (.int .i64 0))), none⟩] none)
 (.seq (.reg [1, 2] [(8, 1)] [
    ⟨some 5, .fad (.t 2) 1, none⟩,
    ⟨some 6, .ld true 7 (.t 5), none⟩,
    ⟨some 7, .mv (.t 1), none⟩,
    ⟨some 8, .call 220 [] [(.t 6), (.t 7)], none⟩,
    ⟨some 1, .mv (.t 8), none⟩] none)
  (.seq (.seq (.reg [1, 2, 10] [] [
      ⟨some 9, .mv (.t 1), none⟩,
      ⟨some 10, .bin .lss (.t 9) (.c (.v false (.int .i64 0))), none⟩] none)
    (.cond (.t 10) (.seq (.reg [4] [] [
        ⟨some 4, .mv (.c (.v false (.int .i64 (-1)))), none⟩] none)
      (.ret))
     (.skip)))
   (.seq (.reg [1] [(14, 1)] [
      ⟨some 11, .fad (.t 2) 9, none⟩,
      ⟨some 12, .ld false 1 (.t 11), none⟩,
      ⟨some 13, .mv (.t 1), none⟩,
      ⟨some 14, .call 219 [] [(.t 12), (.t 13)], none⟩,
      ⟨some 1, .mv (.t 14), none⟩] none)
    (.seq (.seq (.reg [1, 16] [] [
        ⟨some 15, .mv (.t 1), none⟩,
        ⟨some 16, .bin .lss (.t 15) (.c (.v false (.int .i64 0))), none⟩] none)
      (.cond (.t 16) (.seq (.reg [4] [] [
          ⟨some 4, .mv (.c (.v false (.int .i64 (-1)))), none⟩] none)
        (.ret))
       (.skip)))
     (.seq (.reg [1, 4] [] [
        ⟨some 17, .mv (.t 1), none⟩,
        ⟨some 4, .mv (.t 17), none⟩] none)
      (.ret))))))

def pf222 : PF := ⟨[.s 4], [], pb222⟩

-- loop.example/g00496/laws.szRefS
def pb223 : PC :=
.seq (.reg [0, 1] [] [
   ⟨some 4, .mv (.c (.v false (.int .i64 0))), none⟩] none)
 (.seq (.reg [1] [] [
    ⟨some 5, .mv (.t 1), none⟩,
    ⟨some 6, .mv (.t 0), none⟩,
    ⟨some 7, .len (.t 6), none⟩,
    ⟨some 8, .bin .sub (.t 5) (.t 7), none⟩,
    ⟨some 1, .mv (.t 8), none⟩] none)
  (.seq (.seq (.reg [1, 10] [] [
      ⟨some 9, .mv (.t 1), none⟩,
      ⟨some 10, .bin .lss (.t 9) (.c (.v false (.int .i64 0))), none⟩] none)
    (.cond (.t 10) (.seq (.reg [4] [] [
        ⟨some 4, .mv (.c (.v false (.int .i64 (-1)))), none⟩] none)
      (.ret))
     (.skip)))
   (.seq (.reg [4] [] [
      ⟨some 11, .mv (.t 1), none⟩,
      ⟨some 4, .mv (.t 11), none⟩] none)
    (.ret))))

def pf223 : PF := ⟨[.s 4], [], pb223⟩

-- loop.example/g00496/laws.szResult
def pb224 : PC :=
.seq (.reg [1, 2] [] [
   ⟨some 2, .box 6 (.t 0), none⟩,
   ⟨some 4, .mv (.c (.v false (.int .i64 0))), none⟩] none)
 (.seq (.reg [1, 2] [(8, 1)] [
    ⟨some 5, .fad (.t 2) 0, none⟩,
    ⟨some 6, .ld false 1 (.t 5), none⟩,
    ⟨some 7, .mv (.t 1), none⟩,
    ⟨some 8, .call 226 [] [(.t 6), (.t 7)], none⟩,
    ⟨some 1, .mv (.t 8), none⟩] none)
  (.seq (.seq (.reg [1, 2, 10] [] [
      ⟨some 9, .mv (.t 1), none⟩,
      ⟨some 10, .bin .lss (.t 9) (.c (.v false (.int .i64 0))), none⟩] none)
    (.cond (.t 10) (.seq (.reg [4] [] [
        ⟨some 4, .mv (.c (.v false (.int .i64 (-1)))), none⟩] none)
      (.ret))
     (.skip)))
   (.seq (.reg [1] [(14, 1)] [
      ⟨some 11, .fad (.t 2) 3, none⟩,
      ⟨some 12, .ld true 3 (.t 11), none⟩,
      ⟨some 13, .mv (.t 1), none⟩,
      ⟨some 14, .call 231 [] [(.t 12), (.t 13)], none⟩,
      ⟨some 1, .mv (.t 14), none⟩] none)
    (.seq (.seq (.reg [1, 16] [] [
        ⟨some 15, .mv (.t 1), none⟩,
        ⟨some 16, .bin .lss (.t 15) (.c (.v false (.int .i64 0))), none⟩] none)
      (.cond (.t 16) (.seq (.reg [4] [] [
          ⟨some 4, .mv (.c (.v false (.int .i64 (-1)))), none⟩] none)
        (.ret))
       (.skip)))
     (.seq (.reg [1, 4] [] [
        ⟨some 17, .mv (.t 1), none⟩,
        ⟨some 4, .mv (.t 17), none⟩] none)
      (.ret))))))

def pf224 : PF := ⟨[.s 4], [], pb224⟩

-- loop.example/g00496/laws.szRow
def pb225 : PC :=
.seq (.reg [1, 2] [] [
   ⟨some 2, .box 2 (.t 0), none⟩,
   ⟨some 4, .mv (.c (.v false (.int .i64 0))), none⟩] none)
 (.seq (.reg [1] [(8, 1)] [
    ⟨some 5, .fad (.t 2) 1, none⟩,
    ⟨some 6, .ld false 1 (.t 5), none⟩,
    ⟨some 7, .mv (.t 1), none⟩,
    ⟨some 8, .call 232 [] [(.t 6), (.t 7)], none⟩,
    ⟨some 1, .mv (.t 8), none⟩] none)
  (.seq (.seq (.reg [1, 10] [] [
      ⟨some 9, .mv (.t 1), none⟩,
      ⟨some 10, .bin .lss (.t 9) (.c (.v false (.int .i64 0))), none⟩] none)
    (.cond (.t 10) (.seq (.reg [4] [] [
        ⟨some 4, .mv (.c (.v false (.int .i64 (-1)))), none⟩] none)
      (.ret))
     (.skip)))
   (.seq (.reg [1, 4] [] [
      ⟨some 11, .mv (.t 1), none⟩,
      ⟨some 4, .mv (.t 11), none⟩] none)
    (.ret))))

def pf225 : PF := ⟨[.s 4], [], pb225⟩

-- loop.example/g00496/laws.szRowS
def pl226_0 : PC :=
.seq (.seq (.reg [0, 1, 5, 15] [] [
           ⟨some 12, .mv (.t 5), none⟩,
           ⟨some 13, .mv (.t 0), none⟩,
           ⟨some 14, .len (.t 13), none⟩,
           ⟨some 15, .bin .lss (.t 12) (.t 14), none⟩] none)
         (.cond (.t 15) (.skip)
          (.exit 0)))
        (.seq (.blk 1 (.seq (.reg [0, 1, 5] [(23, 1)] [
             ⟨some 18, .mv (.t 0), none⟩,
             ⟨some 19, .mv (.t 5), none⟩,
             ⟨some 20, .iad 2 (.t 18) (.t 19), none⟩,
             ⟨some 21, .ld true 2 (.t 20), none⟩,
             ⟨some 22, .mv (.t 1), none⟩,
             ⟨some 23, .call 225 [] [(.t 21), (.t 22)], none⟩,
             ⟨some 1, .mv (.t 23), none⟩] none)
           (.seq (.reg [0, 1, 5, 25] [] [
              ⟨some 24, .mv (.t 1), none⟩,
              ⟨some 25, .bin .lss (.t 24) (.c (.v false (.int .i64 0))), none⟩] none)
            (.cond (.t 25) (.seq (.reg [4] [] [
                ⟨some 4, .mv (.c (.v false (.int .i64 (-1)))), none⟩] none)
              (.ret))
             (.skip)))))
         (.reg [0, 1, 5] [] [
           ⟨some 16, .mv (.t 5), none⟩,
           ⟨some 17, .bin .add (.t 16) (.c (.v false (.int .i64 1))), none⟩,
           ⟨some 5, .mv (.t 17), none⟩] none))

def pb226 : PC :=
.seq (.reg [0, 1] [] [
   ⟨some 4, .mv (.c (.v false (.int .i64 0))), none⟩] none)
 (.seq (.reg [0, 1] [] [
    ⟨some 6, .mv (.t 1), none⟩,
    ⟨some 7, .mv (.t 0), none⟩,
    ⟨some 8, .len (.t 7), none⟩,
    ⟨some 9, .bin .sub (.t 6) (.t 8), none⟩,
    ⟨some 1, .mv (.t 9), none⟩] none)
  (.seq (.seq (.reg [0, 1, 11] [] [
      ⟨some 10, .mv (.t 1), none⟩,
      ⟨some 11, .bin .lss (.t 10) (.c (.v false (.int .i64 0))), none⟩] none)
    (.cond (.t 11) (.seq (.reg [4] [] [
        ⟨some 4, .mv (.c (.v false (.int .i64 (-1)))), none⟩] none)
      (.ret))
     (.skip)))
   (.seq (.seq (.reg [0, 1, 5] [] [
       ⟨some 5, .mv (.c (.v false (.int .i64 0))), none⟩] none)
     (.blk 0 (.loop pl226_0)))
    (.seq (.reg [1, 4] [] [
       ⟨some 26, .mv (.t 1), none⟩,
       ⟨some 4, .mv (.t 26), none⟩] none)
     (.ret)))))

def pf226 : PF := ⟨[.s 4], [], pb226⟩

-- loop.example/g00496/laws.szSlot
def pb227 : PC :=
.seq (.reg [1, 2] [] [
   ⟨some 2, .box 2 (.t 0), none⟩,
   ⟨some 4, .mv (.c (.v false (.int .i64 0))), none⟩] none)
 (.seq (.reg [1] [(8, 1)] [
    ⟨some 5, .fad (.t 2) 1, none⟩,
    ⟨some 6, .ld false 1 (.t 5), none⟩,
    ⟨some 7, .mv (.t 1), none⟩,
    ⟨some 8, .call 232 [] [(.t 6), (.t 7)], none⟩,
    ⟨some 1, .mv (.t 8), none⟩] none)
  (.seq (.seq (.reg [1, 10] [] [
      ⟨some 9, .mv (.t 1), none⟩,
      ⟨some 10, .bin .lss (.t 9) (.c (.v false (.int .i64 0))), none⟩] none)
    (.cond (.t 10) (.seq (.reg [4] [] [
        ⟨some 4, .mv (.c (.v false (.int .i64 (-1)))), none⟩] none)
      (.ret))
     (.skip)))
   (.seq (.reg [1, 4] [] [
      ⟨some 11, .mv (.t 1), none⟩,
      ⟨some 4, .mv (.t 11), none⟩] none)
    (.ret))))

def pf227 : PF := ⟨[.s 4], [], pb227⟩

-- loop.example/g00496/laws.szSlotS
def pl228_0 : PC :=
.seq (.seq (.reg [0, 1, 5, 15] [] [
           ⟨some 12, .mv (.t 5), none⟩,
           ⟨some 13, .mv (.t 0), none⟩,
           ⟨some 14, .len (.t 13), none⟩,
           ⟨some 15, .bin .lss (.t 12) (.t 14), none⟩] none)
         (.cond (.t 15) (.skip)
          (.exit 0)))
        (.seq (.blk 1 (.seq (.reg [0, 1, 5] [(23, 1)] [
             ⟨some 18, .mv (.t 0), none⟩,
             ⟨some 19, .mv (.t 5), none⟩,
             ⟨some 20, .iad 2 (.t 18) (.t 19), none⟩,
             ⟨some 21, .ld true 2 (.t 20), none⟩,
             ⟨some 22, .mv (.t 1), none⟩,
             ⟨some 23, .call 227 [] [(.t 21), (.t 22)], none⟩,
             ⟨some 1, .mv (.t 23), none⟩] none)
           (.seq (.reg [0, 1, 5, 25] [] [
              ⟨some 24, .mv (.t 1), none⟩,
              ⟨some 25, .bin .lss (.t 24) (.c (.v false (.int .i64 0))), none⟩] none)
            (.cond (.t 25) (.seq (.reg [4] [] [
                ⟨some 4, .mv (.c (.v false (.int .i64 (-1)))), none⟩] none)
              (.ret))
             (.skip)))))
         (.reg [0, 1, 5] [] [
           ⟨some 16, .mv (.t 5), none⟩,
           ⟨some 17, .bin .add (.t 16) (.c (.v false (.int .i64 1))), none⟩,
           ⟨some 5, .mv (.t 17), none⟩] none))

def pb228 : PC :=
.seq (.reg [0, 1] [] [
   ⟨some 4, .mv (.c (.v false (.int .i64 0))), none⟩] none)
 (.seq (.reg [0, 1] [] [
    ⟨some 6, .mv (.t 1), none⟩,
    ⟨some 7, .mv (.t 0), none⟩,
    ⟨some 8, .len (.t 7), none⟩,
    ⟨some 9, .bin .sub (.t 6) (.t 8), none⟩,
    ⟨some 1, .mv (.t 9), none⟩] none)
  (.seq (.seq (.reg [0, 1, 11] [] [
      ⟨some 10, .mv (.t 1), none⟩,
      ⟨some 11, .bin .lss (.t 10) (.c (.v false (.int .i64 0))), none⟩] none)
    (.cond (.t 11) (.seq (.reg [4] [] [
        ⟨some 4, .mv (.c (.v false (.int .i64 (-1)))), none⟩] none)
      (.ret))
     (.skip)))
   (.seq (.seq (.reg [0, 1, 5] [] [
       ⟨some 5, .mv (.c (.v false (.int .i64 0))), none⟩] none)
     (.blk 0 (.loop pl228_0)))
    (.seq (.reg [1, 4] [] [
       ⟨some 26, .mv (.t 1), none⟩,
       ⟨some 4, .mv (.t 26), none⟩] none)
     (.ret)))))

def pf228 : PF := ⟨[.s 4], [], pb228⟩

-- loop.example/g00496/laws.szTask
def pb229 : PC :=
.seq (.reg [1, 2] [] [
   ⟨some 2, .box 25 (.t 0), none⟩,
   ⟨some 4, .mv (.c (.v false (.int .i64 0))), none⟩] none)
 (.seq (.reg [1, 2] [(8, 1)] [
    ⟨some 5, .fad (.t 2) 3, none⟩,
    ⟨some 6, .ld false 1 (.t 5), none⟩,
    ⟨some 7, .mv (.t 1), none⟩,
    ⟨some 8, .call 232 [] [(.t 6), (.t 7)], none⟩,
    ⟨some 1, .mv (.t 8), none⟩] none)
  (.seq (.seq (.reg [1, 2, 10] [] [
      ⟨some 9, .mv (.t 1), none⟩,
      ⟨some 10, .bin .lss (.t 9) (.c (.v false (.int .i64 0))), none⟩] none)
    (.cond (.t 10) (.seq (.reg [4] [] [
        ⟨some 4, .mv (.c (.v false (.int .i64 (-1)))), none⟩] none)
      (.ret))
     (.skip)))
   (.seq (.reg [1, 2] [(14, 1)] [
      ⟨some 11, .fad (.t 2) 5, none⟩,
      ⟨some 12, .ld true 10 (.t 11), none⟩,
      ⟨some 13, .mv (.t 1), none⟩,
      ⟨some 14, .call 222 [] [(.t 12), (.t 13)], none⟩,
      ⟨some 1, .mv (.t 14), none⟩] none)
    (.seq (.seq (.reg [1, 2, 16] [] [
        ⟨some 15, .mv (.t 1), none⟩,
        ⟨some 16, .bin .lss (.t 15) (.c (.v false (.int .i64 0))), none⟩] none)
      (.cond (.t 16) (.seq (.reg [4] [] [
          ⟨some 4, .mv (.c (.v false (.int .i64 (-1)))), none⟩] none)
        (.ret))
       (.skip)))
     (.seq (.reg [1, 2] [(20, 1)] [
        ⟨some 17, .fad (.t 2) 17, none⟩,
        ⟨some 18, .ld false 1 (.t 17), none⟩,
        ⟨some 19, .mv (.t 1), none⟩,
        ⟨some 20, .call 223 [] [(.t 18), (.t 19)], none⟩,
        ⟨some 1, .mv (.t 20), none⟩] none)
      (.seq (.seq (.reg [1, 2, 22] [] [
          ⟨some 21, .mv (.t 1), none⟩,
          ⟨some 22, .bin .lss (.t 21) (.c (.v false (.int .i64 0))), none⟩] none)
        (.cond (.t 22) (.seq (.reg [4] [] [
            ⟨some 4, .mv (.c (.v false (.int .i64 (-1)))), none⟩] none)
          (.ret))
         (.skip)))
       (.seq (.reg [1] [(26, 1)] [
          ⟨some 23, .fad (.t 2) 24, none⟩,
          ⟨some 24, .ld false 1 (.t 23), none⟩,
          ⟨some 25, .mv (.t 1), none⟩,
          ⟨some 26, .call 226 [] [(.t 24), (.t 25)], none⟩,
          ⟨some 1, .mv (.t 26), none⟩] none)
        (.seq (.seq (.reg [1, 28] [] [
            ⟨some 27, .mv (.t 1), none⟩,
            ⟨some 28, .bin .lss (.t 27) (.c (.v false (.int .i64 0))), none⟩] none)
          (.cond (.t 28) (.seq (.reg [4] [] [
              ⟨some 4, .mv (.c (.v false (.int .i64 (-1)))), none⟩] none)
            (.ret))
           (.skip)))
         (.seq (.reg [1, 4] [] [
            ⟨some 29, .mv (.t 1), none⟩,
            ⟨some 4, .mv (.t 29), none⟩] none)
          (.ret))))))))))

def pf229 : PF := ⟨[.s 4], [], pb229⟩

-- loop.example/g00496/laws.szTaskS
def pl230_0 : PC :=
.seq (.seq (.reg [0, 1, 5, 15] [] [
           ⟨some 12, .mv (.t 5), none⟩,
           ⟨some 13, .mv (.t 0), none⟩,
           ⟨some 14, .len (.t 13), none⟩,
           ⟨some 15, .bin .lss (.t 12) (.t 14), none⟩] none)
         (.cond (.t 15) (.skip)
          (.exit 0)))
        (.seq (.blk 1 (.seq (.reg [0, 1, 5] [(23, 1)] [
             ⟨some 18, .mv (.t 0), none⟩,
             ⟨some 19, .mv (.t 5), none⟩,
             ⟨some 20, .iad 25 (.t 18) (.t 19), none⟩,
             ⟨some 21, .ld true 25 (.t 20), none⟩,
             ⟨some 22, .mv (.t 1), none⟩,
             ⟨some 23, .call 229 [] [(.t 21), (.t 22)], none⟩,
             ⟨some 1, .mv (.t 23), none⟩] none)
           (.seq (.reg [0, 1, 5, 25] [] [
              ⟨some 24, .mv (.t 1), none⟩,
              ⟨some 25, .bin .lss (.t 24) (.c (.v false (.int .i64 0))), none⟩] none)
            (.cond (.t 25) (.seq (.reg [4] [] [
                ⟨some 4, .mv (.c (.v false (.int .i64 (-1)))), none⟩] none)
              (.ret))
             (.skip)))))
         (.reg [0, 1, 5] [] [
           ⟨some 16, .mv (.t 5), none⟩,
           ⟨some 17, .bin .add (.t 16) (.c (.v false (.int .i64 1))), none⟩,
           ⟨some 5, .mv (.t 17), none⟩] none))

def pb230 : PC :=
.seq (.reg [0, 1] [] [
   ⟨some 4, .mv (.c (.v false (.int .i64 0))), none⟩] none)
 (.seq (.reg [0, 1] [] [
    ⟨some 6, .mv (.t 1), none⟩,
    ⟨some 7, .mv (.t 0), none⟩,
    ⟨some 8, .len (.t 7), none⟩,
    ⟨some 9, .bin .sub (.t 6) (.t 8), none⟩,
    ⟨some 1, .mv (.t 9), none⟩] none)
  (.seq (.seq (.reg [0, 1, 11] [] [
      ⟨some 10, .mv (.t 1), none⟩,
      ⟨some 11, .bin .lss (.t 10) (.c (.v false (.int .i64 0))), none⟩] none)
    (.cond (.t 11) (.seq (.reg [4] [] [
        ⟨some 4, .mv (.c (.v false (.int .i64 (-1)))), none⟩] none)
      (.ret))
     (.skip)))
   (.seq (.seq (.reg [0, 1, 5] [] [
       ⟨some 5, .mv (.c (.v false (.int .i64 0))), none⟩] none)
     (.blk 0 (.loop pl230_0)))
    (.seq (.reg [1, 4] [] [
       ⟨some 26, .mv (.t 1), none⟩,
       ⟨some 4, .mv (.t 26), none⟩] none)
     (.ret)))))

def pf230 : PF := ⟨[.s 4], [], pb230⟩

-- loop.example/g00496/laws.szVal
def pb231 : PC :=
.seq (.reg [1, 2] [] [
   ⟨some 2, .box 3 (.t 0), none⟩,
   ⟨some 4, .mv (.c (.v false (.int .i64 0))), none⟩] none)
 (.seq (.reg [1] [] [
    ⟨some 5, .mv (.t 1), none⟩,
    ⟨some 6, .fad (.t 2) 2, none⟩,
    ⟨some 7, .ld false 1 (.t 6), none⟩,
    ⟨some 8, .lens (.t 7), none⟩,
    ⟨some 9, .bin .sub (.t 5) (.t 8), none⟩,
    ⟨some 1, .mv (.t 9), none⟩] none)
  (.seq (.seq (.reg [1, 11] [] [
      ⟨some 10, .mv (.t 1), none⟩,
      ⟨some 11, .bin .lss (.t 10) (.c (.v false (.int .i64 0))), none⟩] none)
    (.cond (.t 11) (.seq (.reg [4] [] [
        ⟨some 4, .mv (.c (.v false (.int .i64 (-1)))), none⟩] none)
      (.ret))
     (.skip)))
   (.seq (.reg [4] [] [
      ⟨some 12, .mv (.t 1), none⟩,
      ⟨some 4, .mv (.t 12), none⟩] none)
    (.ret))))

def pf231 : PF := ⟨[.s 4], [], pb231⟩

-- loop.example/g00496/laws.szValS
def pl232_0 : PC :=
.seq (.seq (.reg [0, 1, 5, 15] [] [
           ⟨some 12, .mv (.t 5), none⟩,
           ⟨some 13, .mv (.t 0), none⟩,
           ⟨some 14, .len (.t 13), none⟩,
           ⟨some 15, .bin .lss (.t 12) (.t 14), none⟩] none)
         (.cond (.t 15) (.skip)
          (.exit 0)))
        (.seq (.blk 1 (.seq (.reg [0, 1, 5] [(23, 1)] [
             ⟨some 18, .mv (.t 0), none⟩,
             ⟨some 19, .mv (.t 5), none⟩,
             ⟨some 20, .iad 3 (.t 18) (.t 19), none⟩,
             ⟨some 21, .ld true 3 (.t 20), none⟩,
             ⟨some 22, .mv (.t 1), none⟩,
             ⟨some 23, .call 231 [] [(.t 21), (.t 22)], none⟩,
             ⟨some 1, .mv (.t 23), none⟩] none)
           (.seq (.reg [0, 1, 5, 25] [] [
              ⟨some 24, .mv (.t 1), none⟩,
              ⟨some 25, .bin .lss (.t 24) (.c (.v false (.int .i64 0))), none⟩] none)
            (.cond (.t 25) (.seq (.reg [4] [] [
                ⟨some 4, .mv (.c (.v false (.int .i64 (-1)))), none⟩] none)
              (.ret))
             (.skip)))))
         (.reg [0, 1, 5] [] [
           ⟨some 16, .mv (.t 5), none⟩,
           ⟨some 17, .bin .add (.t 16) (.c (.v false (.int .i64 1))), none⟩,
           ⟨some 5, .mv (.t 17), none⟩] none))

def pb232 : PC :=
.seq (.reg [0, 1] [] [
   ⟨some 4, .mv (.c (.v false (.int .i64 0))), none⟩] none)
 (.seq (.reg [0, 1] [] [
    ⟨some 6, .mv (.t 1), none⟩,
    ⟨some 7, .mv (.t 0), none⟩,
    ⟨some 8, .len (.t 7), none⟩,
    ⟨some 9, .bin .sub (.t 6) (.t 8), none⟩,
    ⟨some 1, .mv (.t 9), none⟩] none)
  (.seq (.seq (.reg [0, 1, 11] [] [
      ⟨some 10, .mv (.t 1), none⟩,
      ⟨some 11, .bin .lss (.t 10) (.c (.v false (.int .i64 0))), none⟩] none)
    (.cond (.t 11) (.seq (.reg [4] [] [
        ⟨some 4, .mv (.c (.v false (.int .i64 (-1)))), none⟩] none)
      (.ret))
     (.skip)))
   (.seq (.seq (.reg [0, 1, 5] [] [
       ⟨some 5, .mv (.c (.v false (.int .i64 0))), none⟩] none)
     (.blk 0 (.loop pl232_0)))
    (.seq (.reg [1, 4] [] [
       ⟨some 26, .mv (.t 1), none⟩,
       ⟨some 4, .mv (.t 26), none⟩] none)
     (.ret)))))

def pf232 : PF := ⟨[.s 4], [], pb232⟩

-- loop.example/g00496/laws.szWorld
def pb233 : PC :=
.seq (.reg [1, 2] [] [
   ⟨some 2, .box 14 (.t 0), none⟩,
   ⟨some 4, .mv (.c (.v false (.int .i64 0))), none⟩] none)
 (.seq (.reg [1, 2] [(8, 1)] [
    ⟨some 5, .fad (.t 2) 0, none⟩,
    ⟨some 6, .ld true 3 (.t 5), none⟩,
    ⟨some 7, .mv (.t 1), none⟩,
    ⟨some 8, .call 214 [] [(.t 6), (.t 7)], none⟩,
    ⟨some 1, .mv (.t 8), none⟩] none)
  (.seq (.seq (.reg [1, 2, 10] [] [
      ⟨some 9, .mv (.t 1), none⟩,
      ⟨some 10, .bin .lss (.t 9) (.c (.v false (.int .i64 0))), none⟩] none)
    (.cond (.t 10) (.seq (.reg [4] [] [
        ⟨some 4, .mv (.c (.v false (.int .i64 (-1)))), none⟩] none)
      (.ret))
     (.skip)))
   (.seq (.reg [1, 2] [(14, 1)] [
      ⟨some 11, .fad (.t 2) 6, none⟩,
      ⟨some 12, .ld true 2 (.t 11), none⟩,
      ⟨some 13, .mv (.t 1), none⟩,
      ⟨some 14, .call 218 [] [(.t 12), (.t 13)], none⟩,
      ⟨some 1, .mv (.t 14), none⟩] none)
    (.seq (.seq (.reg [1, 2, 16] [] [
        ⟨some 15, .mv (.t 1), none⟩,
        ⟨some 16, .bin .lss (.t 15) (.c (.v false (.int .i64 0))), none⟩] none)
      (.cond (.t 16) (.seq (.reg [4] [] [
          ⟨some 4, .mv (.c (.v false (.int .i64 (-1)))), none⟩] none)
        (.ret))
       (.skip)))
     (.seq (.reg [1, 2] [(20, 1)] [
        ⟨some 17, .fad (.t 2) 8, none⟩,
        ⟨some 18, .ld false 1 (.t 17), none⟩,
        ⟨some 19, .mv (.t 1), none⟩,
        ⟨some 20, .call 211 [] [(.t 18), (.t 19)], none⟩,
        ⟨some 1, .mv (.t 20), none⟩] none)
      (.seq (.seq (.reg [1, 2, 22] [] [
          ⟨some 21, .mv (.t 1), none⟩,
          ⟨some 22, .bin .lss (.t 21) (.c (.v false (.int .i64 0))), none⟩] none)
        (.cond (.t 22) (.seq (.reg [4] [] [
            ⟨some 4, .mv (.c (.v false (.int .i64 (-1)))), none⟩] none)
          (.ret))
         (.skip)))
       (.seq (.reg [1, 2] [(26, 1)] [
          ⟨some 23, .fad (.t 2) 9, none⟩,
          ⟨some 24, .ld false 1 (.t 23), none⟩,
          ⟨some 25, .mv (.t 1), none⟩,
          ⟨some 26, .call 219 [] [(.t 24), (.t 25)], none⟩,
          ⟨some 1, .mv (.t 26), none⟩] none)
        (.seq (.seq (.reg [1, 2, 28] [] [
            ⟨some 27, .mv (.t 1), none⟩,
            ⟨some 28, .bin .lss (.t 27) (.c (.v false (.int .i64 0))), none⟩] none)
          (.cond (.t 28) (.seq (.reg [4] [] [
              ⟨some 4, .mv (.c (.v false (.int .i64 (-1)))), none⟩] none)
            (.ret))
           (.skip)))
         (.seq (.reg [1, 2] [(32, 1)] [
            ⟨some 29, .fad (.t 2) 10, none⟩,
            ⟨some 30, .ld false 1 (.t 29), none⟩,
            ⟨some 31, .mv (.t 1), none⟩,
            ⟨some 32, .call 215 [] [(.t 30), (.t 31)], none⟩,
            ⟨some 1, .mv (.t 32), none⟩] none)
          (.seq (.seq (.reg [1, 2, 34] [] [
              ⟨some 33, .mv (.t 1), none⟩,
              ⟨some 34, .bin .lss (.t 33) (.c (.v false (.int .i64 0))), none⟩] none)
            (.cond (.t 34) (.seq (.reg [4] [] [
                ⟨some 4, .mv (.c (.v false (.int .i64 (-1)))), none⟩] none)
              (.ret))
             (.skip)))
           (.seq (.reg [1, 2] [(38, 1)] [
              ⟨some 35, .fad (.t 2) 11, none⟩,
              ⟨some 36, .ld false 1 (.t 35), none⟩,
              ⟨some 37, .mv (.t 1), none⟩,
              ⟨some 38, .call 219 [] [(.t 36), (.t 37)], none⟩,
              ⟨some 1, .mv (.t 38), none⟩] none)
            (.seq (.seq (.reg [1, 2, 40] [] [
                ⟨some 39, .mv (.t 1), none⟩,
                ⟨some 40, .bin .lss (.t 39) (.c (.v false (.int .i64 0))), none⟩] none)
              (.cond (.t 40) (.seq (.reg [4] [] [
                  ⟨some 4, .mv (.c (.v false (.int .i64 (-1)))), none⟩] none)
                (.ret))
               (.skip)))
             (.seq (.reg [1, 2] [(44, 1)] [
                ⟨some 41, .fad (.t 2) 12, none⟩,
                ⟨some 42, .ld false 1 (.t 41), none⟩,
                ⟨some 43, .mv (.t 1), none⟩,
                ⟨some 44, .call 230 [] [(.t 42), (.t 43)], none⟩,
                ⟨some 1, .mv (.t 44), none⟩] none)
              (.seq (.seq (.reg [1, 2, 46] [] [
                  ⟨some 45, .mv (.t 1), none⟩,
                  ⟨some 46, .bin .lss (.t 45) (.c (.v false (.int .i64 0))), none⟩] none)
                (.cond (.t 46) (.seq (.reg [4] [] [
                    ⟨some 4, .mv (.c (.v false (.int .i64 (-1)))), none⟩] none)
                  (.ret))
                 (.skip)))
               (.seq (.reg [1] [(50, 1)] [
                  ⟨some 47, .fad (.t 2) 13, none⟩,
                  ⟨some 48, .ld false 1 (.t 47), none⟩,
                  ⟨some 49, .mv (.t 1), none⟩,
                  ⟨some 50, .call 217 [] [(.t 48), (.t 49)], none⟩,
                  ⟨some 1, .mv (.t 50), none⟩] none)
                (.seq (.seq (.reg [1, 52] [] [
                    ⟨some 51, .mv (.t 1), none⟩,
                    ⟨some 52, .bin .lss (.t 51) (.c (.v false (.int .i64 0))), none⟩] none)
                  (.cond (.t 52) (.seq (.reg [4] [] [
                      ⟨some 4, .mv (.c (.v false (.int .i64 (-1)))), none⟩] none)
                    (.ret))
                   (.skip)))
                 (.seq (.reg [1, 4] [] [
                    ⟨some 53, .mv (.t 1), none⟩,
                    ⟨some 4, .mv (.t 53), none⟩] none)
                  (.ret))))))))))))))))))

def pf233 : PF := ⟨[.s 4], [], pb233⟩

-- loop.example/g00496/laws.toBuf
def pb234 : PC :=
.seq (.reg [1, 2] [] [
   ⟨some 1, .box 5 (.t 0), none⟩,
   ⟨some 2, .alloc [(.v false (.int .i64 0)), (.v false (.int .i64 0)), (.v false (.int .i64 0)), (.nl 2), (.nl 1)], none⟩] none)
 (.seq (.reg [1, 2, 3] [] [
    ⟨some 3, .alloc [(.v false (.int .i64 0)), (.v false (.int .i64 0)), (.v false (.int .i64 0)), (.nl 2), (.nl 1)], none⟩] none)
  (.seq (.reg [1, 2, 3] [] [
     ⟨some 4, .fad (.t 1) 0, none⟩,
     ⟨some 5, .ld false 1 (.t 4), none⟩,
     ⟨some 6, .fad (.t 3) 0, none⟩,
     ⟨none, .st 1 (.t 6) (.t 5), none⟩] none)
   (.seq (.reg [1, 2, 3] [] [
      ⟨some 7, .fad (.t 1) 1, none⟩,
      ⟨some 8, .ld false 1 (.t 7), none⟩,
      ⟨some 9, .fad (.t 3) 1, none⟩,
      ⟨none, .st 1 (.t 9) (.t 8), none⟩] none)
    (.seq (.reg [1, 2, 3] [] [
       ⟨some 10, .fad (.t 1) 2, none⟩,
       ⟨some 11, .ld true 2 (.t 10), none⟩,
       ⟨some 12, .call 237 [] [(.t 11)], none⟩,
       ⟨some 13, .fad (.t 3) 2, none⟩,
       ⟨none, .st 2 (.t 13) (.t 12), none⟩] none)
     (.seq (.reg [2, 3] [] [
        ⟨some 14, .fad (.t 1) 4, none⟩,
        ⟨some 15, .ld false 1 (.t 14), none⟩,
        ⟨some 16, .call 236 [] [(.t 15)], none⟩,
        ⟨some 17, .fad (.t 3) 4, none⟩,
        ⟨none, .st 1 (.t 17) (.t 16), none⟩] none)
      (.seq (.reg [2] [] [
         ⟨some 18, .ld true 5 (.t 3), none⟩,
         ⟨none, .st 5 (.t 2) (.t 18), none⟩] none)
       (.ret)))))))

def pf234 : PF := ⟨[.b 2 5 true], [], pb234⟩

-- loop.example/g00496/laws.toBufS
def pl235_0 : PC :=
.seq (.seq (.reg [0, 3, 4, 11] [] [
          ⟨some 8, .mv (.t 4), none⟩,
          ⟨some 9, .mv (.t 0), none⟩,
          ⟨some 10, .len (.t 9), none⟩,
          ⟨some 11, .bin .lss (.t 8) (.t 10), none⟩] none)
        (.cond (.t 11) (.skip)
         (.exit 0)))
       (.seq (.blk 1 (.reg [0, 3, 4] [] [
           ⟨some 14, .mv (.t 3), none⟩,
           ⟨some 15, .mv (.t 4), none⟩,
           ⟨some 16, .mv (.t 0), none⟩,
           ⟨some 17, .mv (.t 4), none⟩,
           ⟨some 18, .iad 5 (.t 16) (.t 17), none⟩,
           ⟨some 19, .ld true 5 (.t 18), none⟩,
           ⟨some 20, .call 234 [] [(.t 19)], none⟩,
           ⟨some 21, .iad 5 (.t 14) (.t 15), none⟩,
           ⟨none, .st 5 (.t 21) (.t 20), none⟩] none))
        (.reg [0, 3, 4] [] [
          ⟨some 12, .mv (.t 4), none⟩,
          ⟨some 13, .bin .add (.t 12) (.c (.v false (.int .i64 1))), none⟩,
          ⟨some 4, .mv (.t 13), none⟩] none))

def pb235 : PC :=
.seq (.reg [0] [] [
   ⟨some 2, .mv (.c (.nl 5)), none⟩] none)
 (.seq (.reg [0, 3] [(7, 3)] [
    ⟨some 5, .mv (.t 0), none⟩,
    ⟨some 6, .len (.t 5), none⟩,
    ⟨some 7, .mks 5 72 [.int .i64 0, .int .i64 0, .int .i64 0, .sl 2 [], .sl 1 []] (.t 6), none⟩,
    ⟨some 3, .mv (.t 7), none⟩] none)
  (.seq (.seq (.reg [0, 3, 4] [] [
      ⟨some 4, .mv (.c (.v false (.int .i64 0))), none⟩] none)
    (.blk 0 (.loop pl235_0)))
   (.seq (.reg [2, 3] [] [
      ⟨some 22, .mv (.t 3), none⟩,
      ⟨some 2, .mv (.t 22), none⟩] none)
    (.ret))))

def pf235 : PF := ⟨[.s 2], [], pb235⟩

-- loop.example/g00496/laws.toByteS
def pl236_0 : PC :=
.seq (.seq (.reg [0, 3, 4, 11] [] [
          ⟨some 8, .mv (.t 4), none⟩,
          ⟨some 9, .mv (.t 0), none⟩,
          ⟨some 10, .len (.t 9), none⟩,
          ⟨some 11, .bin .lss (.t 8) (.t 10), none⟩] none)
        (.cond (.t 11) (.skip)
         (.exit 0)))
       (.seq (.blk 1 (.reg [0, 3, 4] [] [
           ⟨some 14, .mv (.t 3), none⟩,
           ⟨some 15, .mv (.t 4), none⟩,
           ⟨some 16, .mv (.t 0), none⟩,
           ⟨some 17, .mv (.t 4), none⟩,
           ⟨some 18, .iad 1 (.t 16) (.t 17), none⟩,
           ⟨some 19, .ld false 1 (.t 18), none⟩,
           ⟨some 20, .iad 1 (.t 14) (.t 15), none⟩,
           ⟨none, .st 1 (.t 20) (.t 19), none⟩] none))
        (.reg [0, 3, 4] [] [
          ⟨some 12, .mv (.t 4), none⟩,
          ⟨some 13, .bin .add (.t 12) (.c (.v false (.int .i64 1))), none⟩,
          ⟨some 4, .mv (.t 13), none⟩] none))

def pb236 : PC :=
.seq (.reg [0] [] [
   ⟨some 2, .mv (.c (.nl 1)), none⟩] none)
 (.seq (.reg [0, 3] [(7, 3)] [
    ⟨some 5, .mv (.t 0), none⟩,
    ⟨some 6, .len (.t 5), none⟩,
    ⟨some 7, .mks 1 1 [.int .u8 0] (.t 6), none⟩,
    ⟨some 3, .mv (.t 7), none⟩] none)
  (.seq (.seq (.reg [0, 3, 4] [] [
      ⟨some 4, .mv (.c (.v false (.int .i64 0))), none⟩] none)
    (.blk 0 (.loop pl236_0)))
   (.seq (.reg [2, 3] [] [
      ⟨some 21, .mv (.t 3), none⟩,
      ⟨some 2, .mv (.t 21), none⟩] none)
    (.ret))))

def pf236 : PF := ⟨[.s 2], [], pb236⟩

-- loop.example/g00496/laws.toChunk
def pb237 : PC :=
.seq (.reg [1, 2] [] [
   ⟨some 1, .box 2 (.t 0), none⟩,
   ⟨some 2, .alloc [(.v false (.int .i64 0)), (.nl 2)], none⟩] none)
 (.seq (.reg [1, 2, 3] [] [
    ⟨some 3, .alloc [(.v false (.int .i64 0)), (.nl 2)], none⟩] none)
  (.seq (.reg [1, 2, 3] [] [
     ⟨some 4, .fad (.t 1) 0, none⟩,
     ⟨some 5, .ld false 1 (.t 4), none⟩,
     ⟨some 6, .fad (.t 3) 0, none⟩,
     ⟨none, .st 1 (.t 6) (.t 5), none⟩] none)
   (.seq (.reg [2, 3] [] [
      ⟨some 7, .fad (.t 1) 1, none⟩,
      ⟨some 8, .ld false 1 (.t 7), none⟩,
      ⟨some 9, .call 254 [] [(.t 8)], none⟩,
      ⟨some 10, .fad (.t 3) 1, none⟩,
      ⟨none, .st 1 (.t 10) (.t 9), none⟩] none)
    (.seq (.reg [2] [] [
       ⟨some 11, .ld true 2 (.t 3), none⟩,
       ⟨none, .st 2 (.t 2) (.t 11), none⟩] none)
     (.ret)))))

def pf237 : PF := ⟨[.b 2 2 true], [], pb237⟩

-- loop.example/g00496/laws.toConf
def pb238 : PC :=
.seq (.reg [1, 2] [] [
   ⟨some 1, .box 3 (.t 0), none⟩,
   ⟨some 2, .alloc [(.nl 1), (.v false (.int .i64 0)), (.v false (.int .i64 0))], none⟩] none)
 (.seq (.reg [1, 2, 3] [] [
    ⟨some 3, .alloc [(.nl 1), (.v false (.int .i64 0)), (.v false (.int .i64 0))], none⟩] none)
  (.seq (.reg [1, 2, 3] [] [
     ⟨some 4, .fad (.t 1) 0, none⟩,
     ⟨some 5, .ld false 1 (.t 4), none⟩,
     ⟨some 6, .call 244 [] [(.t 5)], none⟩,
     ⟨some 7, .fad (.t 3) 0, none⟩,
     ⟨none, .st 1 (.t 7) (.t 6), none⟩] none)
   (.seq (.reg [1, 2, 3] [] [
      ⟨some 8, .fad (.t 1) 1, none⟩,
      ⟨some 9, .ld false 1 (.t 8), none⟩,
      ⟨some 10, .fad (.t 3) 1, none⟩,
      ⟨none, .st 1 (.t 10) (.t 9), none⟩] none)
    (.seq (.reg [2, 3] [] [
       ⟨some 11, .fad (.t 1) 2, none⟩,
       ⟨some 12, .ld false 1 (.t 11), none⟩,
       ⟨some 13, .fad (.t 3) 2, none⟩,
       ⟨none, .st 1 (.t 13) (.t 12), none⟩] none)
     (.seq (.reg [2] [] [
        ⟨some 14, .ld true 3 (.t 3), none⟩,
        ⟨none, .st 3 (.t 2) (.t 14), none⟩] none)
      (.ret))))))

def pf238 : PF := ⟨[.b 2 3 true], [], pb238⟩

-- loop.example/g00496/laws.toDead
def pb239 : PC :=
.seq (.reg [1, 2] [] [
   ⟨some 1, .box 3 (.t 0), none⟩,
   ⟨some 2, .alloc [(.v false (.int .i64 0)), (.v false (.int .i64 0)), (.v false (.int .i64 0))], none⟩] none)
 (.seq (.reg [1, 2, 3] [] [
    ⟨some 3, .alloc [(.v false (.int .i64 0)), (.v false (.int .i64 0)), (.v false (.int .i64 0))], none⟩] none)
  (.seq (.reg [1, 2, 3] [] [
     ⟨some 4, .fad (.t 1) 0, none⟩,
     ⟨some 5, .ld false 1 (.t 4), none⟩,
     ⟨some 6, .fad (.t 3) 0, none⟩,
     ⟨none, .st 1 (.t 6) (.t 5), none⟩] none)
   (.seq (.reg [1, 2, 3] [] [
      ⟨some 7, .fad (.t 1) 1, none⟩,
      ⟨some 8, .ld false 1 (.t 7), none⟩,
      ⟨some 9, .fad (.t 3) 1, none⟩,
      ⟨none, .st 1 (.t 9) (.t 8), none⟩] none)
    (.seq (.reg [2, 3] [] [
       ⟨some 10, .fad (.t 1) 2, none⟩,
       ⟨some 11, .ld false 1 (.t 10), none⟩,
       ⟨some 12, .fad (.t 3) 2, none⟩,
       ⟨none, .st 1 (.t 12) (.t 11), none⟩] none)
     (.seq (.reg [2] [] [
        ⟨some 13, .ld true 3 (.t 3), none⟩,
        ⟨none, .st 3 (.t 2) (.t 13), none⟩] none)
      (.ret))))))

def pf239 : PF := ⟨[.b 2 3 true], [], pb239⟩

-- loop.example/g00496/laws.toDeadS
def pl240_0 : PC :=
.seq (.seq (.reg [0, 3, 4, 11] [] [
          ⟨some 8, .mv (.t 4), none⟩,
          ⟨some 9, .mv (.t 0), none⟩,
          ⟨some 10, .len (.t 9), none⟩,
          ⟨some 11, .bin .lss (.t 8) (.t 10), none⟩] none)
        (.cond (.t 11) (.skip)
         (.exit 0)))
       (.seq (.blk 1 (.reg [0, 3, 4] [] [
           ⟨some 14, .mv (.t 3), none⟩,
           ⟨some 15, .mv (.t 4), none⟩,
           ⟨some 16, .mv (.t 0), none⟩,
           ⟨some 17, .mv (.t 4), none⟩,
           ⟨some 18, .iad 3 (.t 16) (.t 17), none⟩,
           ⟨some 19, .ld true 3 (.t 18), none⟩,
           ⟨some 20, .call 239 [] [(.t 19)], none⟩,
           ⟨some 21, .iad 3 (.t 14) (.t 15), none⟩,
           ⟨none, .st 3 (.t 21) (.t 20), none⟩] none))
        (.reg [0, 3, 4] [] [
          ⟨some 12, .mv (.t 4), none⟩,
          ⟨some 13, .bin .add (.t 12) (.c (.v false (.int .i64 1))), none⟩,
          ⟨some 4, .mv (.t 13), none⟩] none))

def pb240 : PC :=
.seq (.reg [0] [] [
   ⟨some 2, .mv (.c (.nl 3)), none⟩] none)
 (.seq (.reg [0, 3] [(7, 3)] [
    ⟨some 5, .mv (.t 0), none⟩,
    ⟨some 6, .len (.t 5), none⟩,
    ⟨some 7, .mks 3 24 [.int .i64 0, .int .i64 0, .int .i64 0] (.t 6), none⟩,
    ⟨some 3, .mv (.t 7), none⟩] none)
  (.seq (.seq (.reg [0, 3, 4] [] [
      ⟨some 4, .mv (.c (.v false (.int .i64 0))), none⟩] none)
    (.blk 0 (.loop pl240_0)))
   (.seq (.reg [2, 3] [] [
      ⟨some 22, .mv (.t 3), none⟩,
      ⟨some 2, .mv (.t 22), none⟩] none)
    (.ret))))

def pf240 : PF := ⟨[.s 2], [], pb240⟩

-- loop.example/g00496/laws.toDeed
def pb241 : PC :=
.seq (.reg [1, 2] [] [
   ⟨some 1, .box 25 (.t 0), none⟩,
   ⟨some 2, .alloc [(.v false (.int .i64 0)), (.v false (.int .i64 0)), (.nl 3), (.v false (.int .i64 0)), (.v false (.int .i64 0)), (.v false (.int .i64 0)), (.v false (.int .i64 0)), (.v false (.int .i64 0)), (.v false (.int .i64 0)), (.v false (.int .i64 0)), (.v false (.str ⟨#[]⟩)), (.nl 7), (.v false (.int .i64 0)), (.nl 1), (.nl 2), (.v false (.int .i64 0)), (.v false (.bool false)), (.v false (.int .i64 0)), (.v false (.int .i64 0)), (.v false (.str ⟨#[]⟩)), (.v false (.int .i64 0)), (.v false (.int .i64 0)), (.v false (.int .i64 0)), (.v false (.int .i64 0)), (.v false (.int .i64 0))], none⟩] none)
 (.seq (.reg [1, 2, 3] [] [
    ⟨some 3, .alloc [(.v false (.int .i64 0)), (.v false (.int .i64 0)), (.nl 3), (.v false (.int .i64 0)), (.v false (.int .i64 0)), (.v false (.int .i64 0)), (.v false (.int .i64 0)), (.v false (.int .i64 0)), (.v false (.int .i64 0)), (.v false (.int .i64 0)), (.v false (.str ⟨#[]⟩)), (.nl 7), (.v false (.int .i64 0)), (.nl 1), (.nl 2), (.v false (.int .i64 0)), (.v false (.bool false)), (.v false (.int .i64 0)), (.v false (.int .i64 0)), (.v false (.str ⟨#[]⟩)), (.v false (.int .i64 0)), (.v false (.int .i64 0)), (.v false (.int .i64 0)), (.v false (.int .i64 0)), (.v false (.int .i64 0))], none⟩] none)
  (.seq (.reg [1, 2, 3] [] [
     ⟨some 4, .fad (.t 1) 0, none⟩,
     ⟨some 5, .ld false 1 (.t 4), none⟩,
     ⟨some 6, .fad (.t 3) 0, none⟩,
     ⟨none, .st 1 (.t 6) (.t 5), none⟩] none)
   (.seq (.reg [1, 2, 3] [] [
      ⟨some 7, .fad (.t 1) 1, none⟩,
      ⟨some 8, .ld false 1 (.t 7), none⟩,
      ⟨some 9, .fad (.t 3) 1, none⟩,
      ⟨none, .st 1 (.t 9) (.t 8), none⟩] none)
    (.seq (.reg [1, 2, 3] [] [
       ⟨some 10, .fad (.t 1) 2, none⟩,
       ⟨some 11, .ld false 1 (.t 10), none⟩,
       ⟨some 12, .call 258 [] [(.t 11)], none⟩,
       ⟨some 13, .fad (.t 3) 2, none⟩,
       ⟨none, .st 1 (.t 13) (.t 12), none⟩] none)
     (.seq (.reg [1, 2, 3] [] [
        ⟨some 14, .fad (.t 1) 3, none⟩,
        ⟨some 15, .ld false 1 (.t 14), none⟩,
        ⟨some 16, .fad (.t 3) 3, none⟩,
        ⟨none, .st 1 (.t 16) (.t 15), none⟩] none)
      (.seq (.reg [1, 2, 3] [] [
         ⟨some 17, .fad (.t 1) 4, none⟩,
         ⟨some 18, .ld true 10 (.t 17), none⟩,
         ⟨some 19, .call 247 [] [(.t 18)], none⟩,
         ⟨some 20, .fad (.t 3) 4, none⟩,
         ⟨none, .st 10 (.t 20) (.t 19), none⟩] none)
       (.seq (.reg [1, 2, 3] [] [
          ⟨some 21, .fad (.t 1) 14, none⟩,
          ⟨some 22, .ld true 6 (.t 21), none⟩,
          ⟨some 23, .call 250 [] [(.t 22)], none⟩,
          ⟨some 24, .fad (.t 3) 14, none⟩,
          ⟨none, .st 6 (.t 24) (.t 23), none⟩] none)
        (.seq (.reg [1, 2, 3] [] [
           ⟨some 25, .fad (.t 1) 20, none⟩,
           ⟨some 26, .ld false 1 (.t 25), none⟩,
           ⟨some 27, .fad (.t 3) 20, none⟩,
           ⟨none, .st 1 (.t 27) (.t 26), none⟩] none)
         (.seq (.reg [1, 2, 3] [] [
            ⟨some 28, .fad (.t 1) 21, none⟩,
            ⟨some 29, .ld false 1 (.t 28), none⟩,
            ⟨some 30, .fad (.t 3) 21, none⟩,
            ⟨none, .st 1 (.t 30) (.t 29), none⟩] none)
          (.seq (.reg [1, 2, 3] [] [
             ⟨some 31, .fad (.t 1) 22, none⟩,
             ⟨some 32, .ld false 1 (.t 31), none⟩,
             ⟨some 33, .fad (.t 3) 22, none⟩,
             ⟨none, .st 1 (.t 33) (.t 32), none⟩] none)
           (.seq (.reg [1, 2, 3] [] [
              ⟨some 34, .fad (.t 1) 23, none⟩,
              ⟨some 35, .ld false 1 (.t 34), none⟩,
              ⟨some 36, .fad (.t 3) 23, none⟩,
              ⟨none, .st 1 (.t 36) (.t 35), none⟩] none)
            (.seq (.reg [2, 3] [] [
               ⟨some 37, .fad (.t 1) 24, none⟩,
               ⟨some 38, .ld false 1 (.t 37), none⟩,
               ⟨some 39, .fad (.t 3) 24, none⟩,
               ⟨none, .st 1 (.t 39) (.t 38), none⟩] none)
             (.seq (.reg [2] [] [
                ⟨some 40, .ld true 25 (.t 3), none⟩,
                ⟨none, .st 25 (.t 2) (.t 40), none⟩] none)
              (.ret))))))))))))))

def pf241 : PF := ⟨[.b 2 25 true], [], pb241⟩

-- loop.example/g00496/laws.toDeedS
def pl242_0 : PC :=
.seq (.seq (.reg [0, 3, 4, 11] [] [
          ⟨some 8, .mv (.t 4), none⟩,
          ⟨some 9, .mv (.t 0), none⟩,
          ⟨some 10, .len (.t 9), none⟩,
          ⟨some 11, .bin .lss (.t 8) (.t 10), none⟩] none)
        (.cond (.t 11) (.skip)
         (.exit 0)))
       (.seq (.blk 1 (.reg [0, 3, 4] [] [
           ⟨some 14, .mv (.t 3), none⟩,
           ⟨some 15, .mv (.t 4), none⟩,
           ⟨some 16, .mv (.t 0), none⟩,
           ⟨some 17, .mv (.t 4), none⟩,
           ⟨some 18, .iad 25 (.t 16) (.t 17), none⟩,
           ⟨some 19, .ld true 25 (.t 18), none⟩,
           ⟨some 20, .call 241 [] [(.t 19)], none⟩,
           ⟨some 21, .iad 25 (.t 14) (.t 15), none⟩,
           ⟨none, .st 25 (.t 21) (.t 20), none⟩] none))
        (.reg [0, 3, 4] [] [
          ⟨some 12, .mv (.t 4), none⟩,
          ⟨some 13, .bin .add (.t 12) (.c (.v false (.int .i64 1))), none⟩,
          ⟨some 4, .mv (.t 13), none⟩] none))

def pb242 : PC :=
.seq (.reg [0] [] [
   ⟨some 2, .mv (.c (.nl 25)), none⟩] none)
 (.seq (.reg [0, 3] [(7, 3)] [
    ⟨some 5, .mv (.t 0), none⟩,
    ⟨some 6, .len (.t 5), none⟩,
    ⟨some 7, .mks 25 280 [.int .i64 0, .int .i64 0, .sl 3 [], .int .i64 0, .int .i64 0, .int .i64 0, .int .i64 0, .int .i64 0, .int .i64 0, .int .i64 0, .str ⟨#[]⟩, .sl 7 [], .int .i64 0, .sl 1 [], .sl 2 [], .int .i64 0, .bool false, .int .i64 0, .int .i64 0, .str ⟨#[]⟩, .int .i64 0, .int .i64 0, .int .i64 0, .int .i64 0, .int .i64 0] (.t 6), none⟩,
    ⟨some 3, .mv (.t 7), none⟩] none)
  (.seq (.seq (.reg [0, 3, 4] [] [
      ⟨some 4, .mv (.c (.v false (.int .i64 0))), none⟩] none)
    (.blk 0 (.loop pl242_0)))
   (.seq (.reg [2, 3] [] [
      ⟨some 22, .mv (.t 3), none⟩,
      ⟨some 2, .mv (.t 22), none⟩] none)
    (.ret))))

def pf242 : PF := ⟨[.s 2], [], pb242⟩

-- loop.example/g00496/laws.toDir
def pb243 : PC :=
.seq (.reg [1, 2] [] [
   ⟨some 1, .box 2 (.t 0), none⟩,
   ⟨some 2, .alloc [(.v false (.int .i64 0)), (.nl 5)], none⟩] none)
 (.seq (.reg [1, 2, 3] [] [
    ⟨some 3, .alloc [(.v false (.int .i64 0)), (.nl 5)], none⟩] none)
  (.seq (.reg [1, 2, 3] [] [
     ⟨some 4, .fad (.t 1) 0, none⟩,
     ⟨some 5, .ld false 1 (.t 4), none⟩,
     ⟨some 6, .fad (.t 3) 0, none⟩,
     ⟨none, .st 1 (.t 6) (.t 5), none⟩] none)
   (.seq (.reg [2, 3] [] [
      ⟨some 7, .fad (.t 1) 1, none⟩,
      ⟨some 8, .ld false 1 (.t 7), none⟩,
      ⟨some 9, .call 249 [] [(.t 8)], none⟩,
      ⟨some 10, .fad (.t 3) 1, none⟩,
      ⟨none, .st 1 (.t 10) (.t 9), none⟩] none)
    (.seq (.reg [2] [] [
       ⟨some 11, .ld true 2 (.t 3), none⟩,
       ⟨none, .st 2 (.t 2) (.t 11), none⟩] none)
     (.ret)))))

def pf243 : PF := ⟨[.b 2 2 true], [], pb243⟩

-- loop.example/g00496/laws.toIntS
def pl244_0 : PC :=
.seq (.seq (.reg [0, 3, 4, 11] [] [
          ⟨some 8, .mv (.t 4), none⟩,
          ⟨some 9, .mv (.t 0), none⟩,
          ⟨some 10, .len (.t 9), none⟩,
          ⟨some 11, .bin .lss (.t 8) (.t 10), none⟩] none)
        (.cond (.t 11) (.skip)
         (.exit 0)))
       (.seq (.blk 1 (.reg [0, 3, 4] [] [
           ⟨some 14, .mv (.t 3), none⟩,
           ⟨some 15, .mv (.t 4), none⟩,
           ⟨some 16, .mv (.t 0), none⟩,
           ⟨some 17, .mv (.t 4), none⟩,
           ⟨some 18, .iad 1 (.t 16) (.t 17), none⟩,
           ⟨some 19, .ld false 1 (.t 18), none⟩,
           ⟨some 20, .iad 1 (.t 14) (.t 15), none⟩,
           ⟨none, .st 1 (.t 20) (.t 19), none⟩] none))
        (.reg [0, 3, 4] [] [
          ⟨some 12, .mv (.t 4), none⟩,
          ⟨some 13, .bin .add (.t 12) (.c (.v false (.int .i64 1))), none⟩,
          ⟨some 4, .mv (.t 13), none⟩] none))

def pb244 : PC :=
.seq (.reg [0] [] [
   ⟨some 2, .mv (.c (.nl 1)), none⟩] none)
 (.seq (.reg [0, 3] [(7, 3)] [
    ⟨some 5, .mv (.t 0), none⟩,
    ⟨some 6, .len (.t 5), none⟩,
    ⟨some 7, .mks 1 8 [.int .i64 0] (.t 6), none⟩,
    ⟨some 3, .mv (.t 7), none⟩] none)
  (.seq (.seq (.reg [0, 3, 4] [] [
      ⟨some 4, .mv (.c (.v false (.int .i64 0))), none⟩] none)
    (.blk 0 (.loop pl244_0)))
   (.seq (.reg [2, 3] [] [
      ⟨some 21, .mv (.t 3), none⟩,
      ⟨some 2, .mv (.t 21), none⟩] none)
    (.ret))))

def pf244 : PF := ⟨[.s 2], [], pb244⟩

-- loop.example/g00496/laws.toPred
def pb245 : PC :=
.seq (.reg [1, 2] [] [
   ⟨some 1, .box 7 (.t 0), none⟩,
   ⟨some 2, .alloc [(.v false (.int .i64 0)), (.v false (.int .i64 0)), (.v false (.int .i64 0)), (.v false (.int .i64 0)), (.v false (.int .i64 0)), (.v false (.str ⟨#[]⟩)), (.nl 7)], none⟩] none)
 (.seq (.reg [1, 2, 3] [] [
    ⟨some 3, .alloc [(.v false (.int .i64 0)), (.v false (.int .i64 0)), (.v false (.int .i64 0)), (.v false (.int .i64 0)), (.v false (.int .i64 0)), (.v false (.str ⟨#[]⟩)), (.nl 7)], none⟩] none)
  (.seq (.reg [1, 2, 3] [] [
     ⟨some 4, .fad (.t 1) 0, none⟩,
     ⟨some 5, .ld false 1 (.t 4), none⟩,
     ⟨some 6, .fad (.t 3) 0, none⟩,
     ⟨none, .st 1 (.t 6) (.t 5), none⟩] none)
   (.seq (.reg [1, 2, 3] [] [
      ⟨some 7, .fad (.t 1) 1, none⟩,
      ⟨some 8, .ld false 1 (.t 7), none⟩,
      ⟨some 9, .fad (.t 3) 1, none⟩,
      ⟨none, .st 1 (.t 9) (.t 8), none⟩] none)
    (.seq (.reg [1, 2, 3] [] [
       ⟨some 10, .fad (.t 1) 2, none⟩,
       ⟨some 11, .ld false 1 (.t 10), none⟩,
       ⟨some 12, .fad (.t 3) 2, none⟩,
       ⟨none, .st 1 (.t 12) (.t 11), none⟩] none)
     (.seq (.reg [1, 2, 3] [] [
        ⟨some 13, .fad (.t 1) 3, none⟩,
        ⟨some 14, .ld true 3 (.t 13), none⟩,
        ⟨some 15, .call 257 [] [(.t 14)], none⟩,
        ⟨some 16, .fad (.t 3) 3, none⟩,
        ⟨none, .st 3 (.t 16) (.t 15), none⟩] none)
      (.seq (.reg [2, 3] [] [
         ⟨some 17, .fad (.t 1) 6, none⟩,
         ⟨some 18, .ld false 1 (.t 17), none⟩,
         ⟨some 19, .call 246 [] [(.t 18)], none⟩,
         ⟨some 20, .fad (.t 3) 6, none⟩,
         ⟨none, .st 1 (.t 20) (.t 19), none⟩] none)
       (.seq (.reg [2] [] [
          ⟨some 21, .ld true 7 (.t 3), none⟩,
          ⟨none, .st 7 (.t 2) (.t 21), none⟩] none)
        (.ret))))))))

def pf245 : PF := ⟨[.b 2 7 true], [], pb245⟩

-- loop.example/g00496/laws.toPredS
def pl246_0 : PC :=
.seq (.seq (.reg [0, 3, 4, 11] [] [
          ⟨some 8, .mv (.t 4), none⟩,
          ⟨some 9, .mv (.t 0), none⟩,
          ⟨some 10, .len (.t 9), none⟩,
          ⟨some 11, .bin .lss (.t 8) (.t 10), none⟩] none)
        (.cond (.t 11) (.skip)
         (.exit 0)))
       (.seq (.blk 1 (.reg [0, 3, 4] [] [
           ⟨some 14, .mv (.t 3), none⟩,
           ⟨some 15, .mv (.t 4), none⟩,
           ⟨some 16, .mv (.t 0), none⟩,
           ⟨some 17, .mv (.t 4), none⟩,
           ⟨some 18, .iad 7 (.t 16) (.t 17), none⟩,
           ⟨some 19, .ld true 7 (.t 18), none⟩,
           ⟨some 20, .call 245 [] [(.t 19)], none⟩,
           ⟨some 21, .iad 7 (.t 14) (.t 15), none⟩,
           ⟨none, .st 7 (.t 21) (.t 20), none⟩] none))
        (.reg [0, 3, 4] [] [
          ⟨some 12, .mv (.t 4), none⟩,
          ⟨some 13, .bin .add (.t 12) (.c (.v false (.int .i64 1))), none⟩,
          ⟨some 4, .mv (.t 13), none⟩] none))

def pb246 : PC :=
.seq (.reg [0] [] [
   ⟨some 2, .mv (.c (.nl 7)), none⟩] none)
 (.seq (.reg [0, 3] [(7, 3)] [
    ⟨some 5, .mv (.t 0), none⟩,
    ⟨some 6, .len (.t 5), none⟩,
    ⟨some 7, .mks 7 80 [.int .i64 0, .int .i64 0, .int .i64 0, .int .i64 0, .int .i64 0, .str ⟨#[]⟩, .sl 7 []] (.t 6), none⟩,
    ⟨some 3, .mv (.t 7), none⟩] none)
  (.seq (.seq (.reg [0, 3, 4] [] [
      ⟨some 4, .mv (.c (.v false (.int .i64 0))), none⟩] none)
    (.blk 0 (.loop pl246_0)))
   (.seq (.reg [2, 3] [] [
      ⟨some 22, .mv (.t 3), none⟩,
      ⟨some 2, .mv (.t 22), none⟩] none)
    (.ret))))

def pf246 : PF := ⟨[.s 2], [], pb246⟩

-- loop.example/g00496/laws.toQuery
def pb247 : PC :=
.seq (.reg [1, 2] [] [
   ⟨some 1, .box 10 (.t 0), none⟩,
   ⟨some 2, .alloc [(.v false (.int .i64 0)), (.v false (.int .i64 0)), (.v false (.int .i64 0)), (.v false (.int .i64 0)), (.v false (.int .i64 0)), (.v false (.int .i64 0)), (.v false (.str ⟨#[]⟩)), (.nl 7), (.v false (.int .i64 0)), (.nl 1)], none⟩] none)
 (.seq (.reg [1, 2, 3] [] [
    ⟨some 3, .alloc [(.v false (.int .i64 0)), (.v false (.int .i64 0)), (.v false (.int .i64 0)), (.v false (.int .i64 0)), (.v false (.int .i64 0)), (.v false (.int .i64 0)), (.v false (.str ⟨#[]⟩)), (.nl 7), (.v false (.int .i64 0)), (.nl 1)], none⟩] none)
  (.seq (.reg [1, 2, 3] [] [
     ⟨some 4, .fad (.t 1) 0, none⟩,
     ⟨some 5, .ld false 1 (.t 4), none⟩,
     ⟨some 6, .fad (.t 3) 0, none⟩,
     ⟨none, .st 1 (.t 6) (.t 5), none⟩] none)
   (.seq (.reg [1, 2, 3] [] [
      ⟨some 7, .fad (.t 1) 1, none⟩,
      ⟨some 8, .ld true 7 (.t 7), none⟩,
      ⟨some 9, .call 245 [] [(.t 8)], none⟩,
      ⟨some 10, .fad (.t 3) 1, none⟩,
      ⟨none, .st 7 (.t 10) (.t 9), none⟩] none)
    (.seq (.reg [1, 2, 3] [] [
       ⟨some 11, .fad (.t 1) 8, none⟩,
       ⟨some 12, .ld false 1 (.t 11), none⟩,
       ⟨some 13, .fad (.t 3) 8, none⟩,
       ⟨none, .st 1 (.t 13) (.t 12), none⟩] none)
     (.seq (.reg [2, 3] [] [
        ⟨some 14, .fad (.t 1) 9, none⟩,
        ⟨some 15, .ld false 1 (.t 14), none⟩,
        ⟨some 16, .call 244 [] [(.t 15)], none⟩,
        ⟨some 17, .fad (.t 3) 9, none⟩,
        ⟨none, .st 1 (.t 17) (.t 16), none⟩] none)
      (.seq (.reg [2] [] [
         ⟨some 18, .ld true 10 (.t 3), none⟩,
         ⟨none, .st 10 (.t 2) (.t 18), none⟩] none)
       (.ret)))))))

def pf247 : PF := ⟨[.b 2 10 true], [], pb247⟩

-- loop.example/g00496/laws.toRef
def pb248 : PC :=
.seq (.reg [1, 2] [] [
   ⟨some 1, .box 5 (.t 0), none⟩,
   ⟨some 2, .alloc [(.v false (.int .i64 0)), (.v false (.int .i64 0)), (.v false (.int .i64 0)), (.v false (.int .i64 0)), (.v false (.int .i64 0))], none⟩] none)
 (.seq (.reg [1, 2, 3] [] [
    ⟨some 3, .alloc [(.v false (.int .i64 0)), (.v false (.int .i64 0)), (.v false (.int .i64 0)), (.v false (.int .i64 0)), (.v false (.int .i64 0))], none⟩] none)
  (.seq (.reg [1, 2, 3] [] [
     ⟨some 4, .fad (.t 1) 0, none⟩,
     ⟨some 5, .ld false 1 (.t 4), none⟩,
     ⟨some 6, .fad (.t 3) 0, none⟩,
     ⟨none, .st 1 (.t 6) (.t 5), none⟩] none)
   (.seq (.reg [1, 2, 3] [] [
      ⟨some 7, .fad (.t 1) 1, none⟩,
      ⟨some 8, .ld false 1 (.t 7), none⟩,
      ⟨some 9, .fad (.t 3) 1, none⟩,
      ⟨none, .st 1 (.t 9) (.t 8), none⟩] none)
    (.seq (.reg [1, 2, 3] [] [
       ⟨some 10, .fad (.t 1) 2, none⟩,
       ⟨some 11, .ld false 1 (.t 10), none⟩,
       ⟨some 12, .fad (.t 3) 2, none⟩,
       ⟨none, .st 1 (.t 12) (.t 11), none⟩] none)
     (.seq (.reg [1, 2, 3] [] [
        ⟨some 13, .fad (.t 1) 3, none⟩,
        ⟨some 14, .ld false 1 (.t 13), none⟩,
        ⟨some 15, .fad (.t 3) 3, none⟩,
        ⟨none, .st 1 (.t 15) (.t 14), none⟩] none)
      (.seq (.reg [2, 3] [] [
         ⟨some 16, .fad (.t 1) 4, none⟩,
         ⟨some 17, .ld false 1 (.t 16), none⟩,
         ⟨some 18, .fad (.t 3) 4, none⟩,
         ⟨none, .st 1 (.t 18) (.t 17), none⟩] none)
       (.seq (.reg [2] [] [
          ⟨some 19, .ld true 5 (.t 3), none⟩,
          ⟨none, .st 5 (.t 2) (.t 19), none⟩] none)
        (.ret))))))))

def pf248 : PF := ⟨[.b 2 5 true], [], pb248⟩

-- loop.example/g00496/laws.toRefS
def pl249_0 : PC :=
.seq (.seq (.reg [0, 3, 4, 11] [] [
          ⟨some 8, .mv (.t 4), none⟩,
          ⟨some 9, .mv (.t 0), none⟩,
          ⟨some 10, .len (.t 9), none⟩,
          ⟨some 11, .bin .lss (.t 8) (.t 10), none⟩] none)
        (.cond (.t 11) (.skip)
         (.exit 0)))
       (.seq (.blk 1 (.reg [0, 3, 4] [] [
           ⟨some 14, .mv (.t 3), none⟩,
           ⟨some 15, .mv (.t 4), none⟩,
           ⟨some 16, .mv (.t 0), none⟩,
           ⟨some 17, .mv (.t 4), none⟩,
           ⟨some 18, .iad 5 (.t 16) (.t 17), none⟩,
           ⟨some 19, .ld true 5 (.t 18), none⟩,
           ⟨some 20, .call 248 [] [(.t 19)], none⟩,
           ⟨some 21, .iad 5 (.t 14) (.t 15), none⟩,
           ⟨none, .st 5 (.t 21) (.t 20), none⟩] none))
        (.reg [0, 3, 4] [] [
          ⟨some 12, .mv (.t 4), none⟩,
          ⟨some 13, .bin .add (.t 12) (.c (.v false (.int .i64 1))), none⟩,
          ⟨some 4, .mv (.t 13), none⟩] none))

def pb249 : PC :=
.seq (.reg [0] [] [
   ⟨some 2, .mv (.c (.nl 5)), none⟩] none)
 (.seq (.reg [0, 3] [(7, 3)] [
    ⟨some 5, .mv (.t 0), none⟩,
    ⟨some 6, .len (.t 5), none⟩,
    ⟨some 7, .mks 5 40 [.int .i64 0, .int .i64 0, .int .i64 0, .int .i64 0, .int .i64 0] (.t 6), none⟩,
    ⟨some 3, .mv (.t 7), none⟩] none)
  (.seq (.seq (.reg [0, 3, 4] [] [
      ⟨some 4, .mv (.c (.v false (.int .i64 0))), none⟩] none)
    (.blk 0 (.loop pl249_0)))
   (.seq (.reg [2, 3] [] [
      ⟨some 22, .mv (.t 3), none⟩,
      ⟨some 2, .mv (.t 22), none⟩] none)
    (.ret))))

def pf249 : PF := ⟨[.s 2], [], pb249⟩

-- loop.example/g00496/laws.toResult
def pb250 : PC :=
.seq (.reg [1, 2] [] [
   ⟨some 1, .box 6 (.t 0), none⟩,
   ⟨some 2, .alloc [(.nl 2), (.v false (.int .i64 0)), (.v false (.bool false)), (.v false (.int .i64 0)), (.v false (.int .i64 0)), (.v false (.str ⟨#[]⟩))], none⟩] none)
 (.seq (.reg [1, 2, 3] [] [
    ⟨some 3, .alloc [(.nl 2), (.v false (.int .i64 0)), (.v false (.bool false)), (.v false (.int .i64 0)), (.v false (.int .i64 0)), (.v false (.str ⟨#[]⟩))], none⟩] none)
  (.seq (.reg [1, 2, 3] [] [
     ⟨some 4, .fad (.t 1) 0, none⟩,
     ⟨some 5, .ld false 1 (.t 4), none⟩,
     ⟨some 6, .call 252 [] [(.t 5)], none⟩,
     ⟨some 7, .fad (.t 3) 0, none⟩,
     ⟨none, .st 1 (.t 7) (.t 6), none⟩] none)
   (.seq (.reg [1, 2, 3] [] [
      ⟨some 8, .fad (.t 1) 1, none⟩,
      ⟨some 9, .ld false 1 (.t 8), none⟩,
      ⟨some 10, .fad (.t 3) 1, none⟩,
      ⟨none, .st 1 (.t 10) (.t 9), none⟩] none)
    (.seq (.reg [1, 2, 3] [] [
       ⟨some 11, .fad (.t 1) 2, none⟩,
       ⟨some 12, .ld false 1 (.t 11), none⟩,
       ⟨some 13, .fad (.t 3) 2, none⟩,
       ⟨none, .st 1 (.t 13) (.t 12), none⟩] none)
     (.seq (.reg [2, 3] [] [
        ⟨some 14, .fad (.t 1) 3, none⟩,
        ⟨some 15, .ld true 3 (.t 14), none⟩,
        ⟨some 16, .call 257 [] [(.t 15)], none⟩,
        ⟨some 17, .fad (.t 3) 3, none⟩,
        ⟨none, .st 3 (.t 17) (.t 16), none⟩] none)
      (.seq (.reg [2] [] [
         ⟨some 18, .ld true 6 (.t 3), none⟩,
         ⟨none, .st 6 (.t 2) (.t 18), none⟩] none)
       (.ret)))))))

def pf250 : PF := ⟨[.b 2 6 true], [], pb250⟩

-- loop.example/g00496/laws.toRow
def pb251 : PC :=
.seq (.reg [1, 2] [] [
   ⟨some 1, .box 2 (.t 0), none⟩,
   ⟨some 2, .alloc [(.v false (.int .i64 0)), (.nl 3)], none⟩] none)
 (.seq (.reg [1, 2, 3] [] [
    ⟨some 3, .alloc [(.v false (.int .i64 0)), (.nl 3)], none⟩] none)
  (.seq (.reg [1, 2, 3] [] [
     ⟨some 4, .fad (.t 1) 0, none⟩,
     ⟨some 5, .ld false 1 (.t 4), none⟩,
     ⟨some 6, .fad (.t 3) 0, none⟩,
     ⟨none, .st 1 (.t 6) (.t 5), none⟩] none)
   (.seq (.reg [2, 3] [] [
      ⟨some 7, .fad (.t 1) 1, none⟩,
      ⟨some 8, .ld false 1 (.t 7), none⟩,
      ⟨some 9, .call 258 [] [(.t 8)], none⟩,
      ⟨some 10, .fad (.t 3) 1, none⟩,
      ⟨none, .st 1 (.t 10) (.t 9), none⟩] none)
    (.seq (.reg [2] [] [
       ⟨some 11, .ld true 2 (.t 3), none⟩,
       ⟨none, .st 2 (.t 2) (.t 11), none⟩] none)
     (.ret)))))

def pf251 : PF := ⟨[.b 2 2 true], [], pb251⟩

-- loop.example/g00496/laws.toRowS
def pl252_0 : PC :=
.seq (.seq (.reg [0, 3, 4, 11] [] [
          ⟨some 8, .mv (.t 4), none⟩,
          ⟨some 9, .mv (.t 0), none⟩,
          ⟨some 10, .len (.t 9), none⟩,
          ⟨some 11, .bin .lss (.t 8) (.t 10), none⟩] none)
        (.cond (.t 11) (.skip)
         (.exit 0)))
       (.seq (.blk 1 (.reg [0, 3, 4] [] [
           ⟨some 14, .mv (.t 3), none⟩,
           ⟨some 15, .mv (.t 4), none⟩,
           ⟨some 16, .mv (.t 0), none⟩,
           ⟨some 17, .mv (.t 4), none⟩,
           ⟨some 18, .iad 2 (.t 16) (.t 17), none⟩,
           ⟨some 19, .ld true 2 (.t 18), none⟩,
           ⟨some 20, .call 251 [] [(.t 19)], none⟩,
           ⟨some 21, .iad 2 (.t 14) (.t 15), none⟩,
           ⟨none, .st 2 (.t 21) (.t 20), none⟩] none))
        (.reg [0, 3, 4] [] [
          ⟨some 12, .mv (.t 4), none⟩,
          ⟨some 13, .bin .add (.t 12) (.c (.v false (.int .i64 1))), none⟩,
          ⟨some 4, .mv (.t 13), none⟩] none))

def pb252 : PC :=
.seq (.reg [0] [] [
   ⟨some 2, .mv (.c (.nl 2)), none⟩] none)
 (.seq (.reg [0, 3] [(7, 3)] [
    ⟨some 5, .mv (.t 0), none⟩,
    ⟨some 6, .len (.t 5), none⟩,
    ⟨some 7, .mks 2 32 [.int .i64 0, .sl 3 []] (.t 6), none⟩,
    ⟨some 3, .mv (.t 7), none⟩] none)
  (.seq (.seq (.reg [0, 3, 4] [] [
      ⟨some 4, .mv (.c (.v false (.int .i64 0))), none⟩] none)
    (.blk 0 (.loop pl252_0)))
   (.seq (.reg [2, 3] [] [
      ⟨some 22, .mv (.t 3), none⟩,
      ⟨some 2, .mv (.t 22), none⟩] none)
    (.ret))))

def pf252 : PF := ⟨[.s 2], [], pb252⟩

-- loop.example/g00496/laws.toSlot
def pb253 : PC :=
.seq (.reg [1, 2] [] [
   ⟨some 1, .box 2 (.t 0), none⟩,
   ⟨some 2, .alloc [(.v false (.int .i64 0)), (.nl 3)], none⟩] none)
 (.seq (.reg [1, 2, 3] [] [
    ⟨some 3, .alloc [(.v false (.int .i64 0)), (.nl 3)], none⟩] none)
  (.seq (.reg [1, 2, 3] [] [
     ⟨some 4, .fad (.t 1) 0, none⟩,
     ⟨some 5, .ld false 1 (.t 4), none⟩,
     ⟨some 6, .fad (.t 3) 0, none⟩,
     ⟨none, .st 1 (.t 6) (.t 5), none⟩] none)
   (.seq (.reg [2, 3] [] [
      ⟨some 7, .fad (.t 1) 1, none⟩,
      ⟨some 8, .ld false 1 (.t 7), none⟩,
      ⟨some 9, .call 258 [] [(.t 8)], none⟩,
      ⟨some 10, .fad (.t 3) 1, none⟩,
      ⟨none, .st 1 (.t 10) (.t 9), none⟩] none)
    (.seq (.reg [2] [] [
       ⟨some 11, .ld true 2 (.t 3), none⟩,
       ⟨none, .st 2 (.t 2) (.t 11), none⟩] none)
     (.ret)))))

def pf253 : PF := ⟨[.b 2 2 true], [], pb253⟩

-- loop.example/g00496/laws.toSlotS
def pl254_0 : PC :=
.seq (.seq (.reg [0, 3, 4, 11] [] [
          ⟨some 8, .mv (.t 4), none⟩,
          ⟨some 9, .mv (.t 0), none⟩,
          ⟨some 10, .len (.t 9), none⟩,
          ⟨some 11, .bin .lss (.t 8) (.t 10), none⟩] none)
        (.cond (.t 11) (.skip)
         (.exit 0)))
       (.seq (.blk 1 (.reg [0, 3, 4] [] [
           ⟨some 14, .mv (.t 3), none⟩,
           ⟨some 15, .mv (.t 4), none⟩,
           ⟨some 16, .mv (.t 0), none⟩,
           ⟨some 17, .mv (.t 4), none⟩,
           ⟨some 18, .iad 2 (.t 16) (.t 17), none⟩,
           ⟨some 19, .ld true 2 (.t 18), none⟩,
           ⟨some 20, .call 253 [] [(.t 19)], none⟩,
           ⟨some 21, .iad 2 (.t 14) (.t 15), none⟩,
           ⟨none, .st 2 (.t 21) (.t 20), none⟩] none))
        (.reg [0, 3, 4] [] [
          ⟨some 12, .mv (.t 4), none⟩,
          ⟨some 13, .bin .add (.t 12) (.c (.v false (.int .i64 1))), none⟩,
          ⟨some 4, .mv (.t 13), none⟩] none))

def pb254 : PC :=
.seq (.reg [0] [] [
   ⟨some 2, .mv (.c (.nl 2)), none⟩] none)
 (.seq (.reg [0, 3] [(7, 3)] [
    ⟨some 5, .mv (.t 0), none⟩,
    ⟨some 6, .len (.t 5), none⟩,
    ⟨some 7, .mks 2 32 [.int .i64 0, .sl 3 []] (.t 6), none⟩,
    ⟨some 3, .mv (.t 7), none⟩] none)
  (.seq (.seq (.reg [0, 3, 4] [] [
      ⟨some 4, .mv (.c (.v false (.int .i64 0))), none⟩] none)
    (.blk 0 (.loop pl254_0)))
   (.seq (.reg [2, 3] [] [
      ⟨some 22, .mv (.t 3), none⟩,
      ⟨some 2, .mv (.t 22), none⟩] none)
    (.ret))))

def pf254 : PF := ⟨[.s 2], [], pb254⟩

-- loop.example/g00496/laws.toTask
def pb255 : PC :=
.seq (.reg [1, 2] [] [
   ⟨some 1, .box 25 (.t 0), none⟩,
   ⟨some 2, .alloc [(.v false (.int .i64 0)), (.v false (.int .i64 0)), (.v false (.int .i64 0)), (.nl 3), (.v false (.int .i64 0)), (.v false (.int .i64 0)), (.v false (.int .i64 0)), (.v false (.int .i64 0)), (.v false (.int .i64 0)), (.v false (.int .i64 0)), (.v false (.int .i64 0)), (.v false (.str ⟨#[]⟩)), (.nl 7), (.v false (.int .i64 0)), (.nl 1), (.v false (.int .i64 0)), (.v false (.int .i64 0)), (.nl 5), (.v false (.int .i64 0)), (.v false (.int .i64 0)), (.v false (.int .i64 0)), (.v false (.int .i64 0)), (.v false (.int .i64 0)), (.v false (.bool false)), (.nl 2)], none⟩] none)
 (.seq (.reg [1, 2, 3] [] [
    ⟨some 3, .alloc [(.v false (.int .i64 0)), (.v false (.int .i64 0)), (.v false (.int .i64 0)), (.nl 3), (.v false (.int .i64 0)), (.v false (.int .i64 0)), (.v false (.int .i64 0)), (.v false (.int .i64 0)), (.v false (.int .i64 0)), (.v false (.int .i64 0)), (.v false (.int .i64 0)), (.v false (.str ⟨#[]⟩)), (.nl 7), (.v false (.int .i64 0)), (.nl 1), (.v false (.int .i64 0)), (.v false (.int .i64 0)), (.nl 5), (.v false (.int .i64 0)), (.v false (.int .i64 0)), (.v false (.int .i64 0)), (.v false (.int .i64 0)), (.v false (.int .i64 0)), (.v false (.bool false)), (.nl 2)], none⟩] none)
  (.seq (.reg [1, 2, 3] [] [
     ⟨some 4, .fad (.t 1) 0, none⟩,
     ⟨some 5, .ld false 1 (.t 4), none⟩,
     ⟨some 6, .fad (.t 3) 0, none⟩,
     ⟨none, .st 1 (.t 6) (.t 5), none⟩] none)
   (.seq (.reg [1, 2, 3] [] [
      ⟨some 7, .fad (.t 1) 1, none⟩,
      ⟨some 8, .ld false 1 (.t 7), none⟩,
      ⟨some 9, .fad (.t 3) 1, none⟩,
      ⟨none, .st 1 (.t 9) (.t 8), none⟩] none)
    (.seq (.reg [1, 2, 3] [] [
       ⟨some 10, .fad (.t 1) 2, none⟩,
       ⟨some 11, .ld false 1 (.t 10), none⟩,
       ⟨some 12, .fad (.t 3) 2, none⟩,
       ⟨none, .st 1 (.t 12) (.t 11), none⟩] none)
     (.seq (.reg [1, 2, 3] [] [
        ⟨some 13, .fad (.t 1) 3, none⟩,
        ⟨some 14, .ld false 1 (.t 13), none⟩,
        ⟨some 15, .call 258 [] [(.t 14)], none⟩,
        ⟨some 16, .fad (.t 3) 3, none⟩,
        ⟨none, .st 1 (.t 16) (.t 15), none⟩] none)
      (.seq (.reg [1, 2, 3] [] [
         ⟨some 17, .fad (.t 1) 4, none⟩,
         ⟨some 18, .ld false 1 (.t 17), none⟩,
         ⟨some 19, .fad (.t 3) 4, none⟩,
         ⟨none, .st 1 (.t 19) (.t 18), none⟩] none)
       (.seq (.reg [1, 2, 3] [] [
          ⟨some 20, .fad (.t 1) 5, none⟩,
          ⟨some 21, .ld true 10 (.t 20), none⟩,
          ⟨some 22, .call 247 [] [(.t 21)], none⟩,
          ⟨some 23, .fad (.t 3) 5, none⟩,
          ⟨none, .st 10 (.t 23) (.t 22), none⟩] none)
        (.seq (.reg [1, 2, 3] [] [
           ⟨some 24, .fad (.t 1) 15, none⟩,
           ⟨some 25, .ld false 1 (.t 24), none⟩,
           ⟨some 26, .fad (.t 3) 15, none⟩,
           ⟨none, .st 1 (.t 26) (.t 25), none⟩] none)
         (.seq (.reg [1, 2, 3] [] [
            ⟨some 27, .fad (.t 1) 16, none⟩,
            ⟨some 28, .ld false 1 (.t 27), none⟩,
            ⟨some 29, .fad (.t 3) 16, none⟩,
            ⟨none, .st 1 (.t 29) (.t 28), none⟩] none)
          (.seq (.reg [1, 2, 3] [] [
             ⟨some 30, .fad (.t 1) 17, none⟩,
             ⟨some 31, .ld false 1 (.t 30), none⟩,
             ⟨some 32, .call 249 [] [(.t 31)], none⟩,
             ⟨some 33, .fad (.t 3) 17, none⟩,
             ⟨none, .st 1 (.t 33) (.t 32), none⟩] none)
           (.seq (.reg [1, 2, 3] [] [
              ⟨some 34, .fad (.t 1) 18, none⟩,
              ⟨some 35, .ld false 1 (.t 34), none⟩,
              ⟨some 36, .fad (.t 3) 18, none⟩,
              ⟨none, .st 1 (.t 36) (.t 35), none⟩] none)
            (.seq (.reg [1, 2, 3] [] [
               ⟨some 37, .fad (.t 1) 19, none⟩,
               ⟨some 38, .ld false 1 (.t 37), none⟩,
               ⟨some 39, .fad (.t 3) 19, none⟩,
               ⟨none, .st 1 (.t 39) (.t 38), none⟩] none)
             (.seq (.reg [1, 2, 3] [] [
                ⟨some 40, .fad (.t 1) 20, none⟩,
                ⟨some 41, .ld false 1 (.t 40), none⟩,
                ⟨some 42, .fad (.t 3) 20, none⟩,
                ⟨none, .st 1 (.t 42) (.t 41), none⟩] none)
              (.seq (.reg [1, 2, 3] [] [
                 ⟨some 43, .fad (.t 1) 21, none⟩,
                 ⟨some 44, .ld false 1 (.t 43), none⟩,
                 ⟨some 45, .fad (.t 3) 21, none⟩,
                 ⟨none, .st 1 (.t 45) (.t 44), none⟩] none)
               (.seq (.reg [1, 2, 3] [] [
                  ⟨some 46, .fad (.t 1) 22, none⟩,
                  ⟨some 47, .ld false 1 (.t 46), none⟩,
                  ⟨some 48, .fad (.t 3) 22, none⟩,
                  ⟨none, .st 1 (.t 48) (.t 47), none⟩] none)
                (.seq (.reg [1, 2, 3] [] [
                   ⟨some 49, .fad (.t 1) 23, none⟩,
                   ⟨some 50, .ld false 1 (.t 49), none⟩,
                   ⟨some 51, .fad (.t 3) 23, none⟩,
                   ⟨none, .st 1 (.t 51) (.t 50), none⟩] none)
                 (.seq (.reg [2, 3] [] [
                    ⟨some 52, .fad (.t 1) 24, none⟩,
                    ⟨some 53, .ld false 1 (.t 52), none⟩,
                    ⟨some 54, .call 252 [] [(.t 53)], none⟩,
                    ⟨some 55, .fad (.t 3) 24, none⟩,
                    ⟨none, .st 1 (.t 55) (.t 54), none⟩] none)
                  (.seq (.reg [2] [] [
                     ⟨some 56, .ld true 25 (.t 3), none⟩,
                     ⟨none, .st 25 (.t 2) (.t 56), none⟩] none)
                   (.ret)))))))))))))))))))

def pf255 : PF := ⟨[.b 2 25 true], [], pb255⟩

-- loop.example/g00496/laws.toTaskS
def pl256_0 : PC :=
.seq (.seq (.reg [0, 3, 4, 11] [] [
          ⟨some 8, .mv (.t 4), none⟩,
          ⟨some 9, .mv (.t 0), none⟩,
          ⟨some 10, .len (.t 9), none⟩,
          ⟨some 11, .bin .lss (.t 8) (.t 10), none⟩] none)
        (.cond (.t 11) (.skip)
         (.exit 0)))
       (.seq (.blk 1 (.reg [0, 3, 4] [] [
           ⟨some 14, .mv (.t 3), none⟩,
           ⟨some 15, .mv (.t 4), none⟩,
           ⟨some 16, .mv (.t 0), none⟩,
           ⟨some 17, .mv (.t 4), none⟩,
           ⟨some 18, .iad 25 (.t 16) (.t 17), none⟩,
           ⟨some 19, .ld true 25 (.t 18), none⟩,
           ⟨some 20, .call 255 [] [(.t 19)], none⟩,
           ⟨some 21, .iad 25 (.t 14) (.t 15), none⟩,
           ⟨none, .st 25 (.t 21) (.t 20), none⟩] none))
        (.reg [0, 3, 4] [] [
          ⟨some 12, .mv (.t 4), none⟩,
          ⟨some 13, .bin .add (.t 12) (.c (.v false (.int .i64 1))), none⟩,
          ⟨some 4, .mv (.t 13), none⟩] none))

def pb256 : PC :=
.seq (.reg [0] [] [
   ⟨some 2, .mv (.c (.nl 25)), none⟩] none)
 (.seq (.reg [0, 3] [(7, 3)] [
    ⟨some 5, .mv (.t 0), none⟩,
    ⟨some 6, .len (.t 5), none⟩,
    ⟨some 7, .mks 25 288 [.int .i64 0, .int .i64 0, .int .i64 0, .sl 3 [], .int .i64 0, .int .i64 0, .int .i64 0, .int .i64 0, .int .i64 0, .int .i64 0, .int .i64 0, .str ⟨#[]⟩, .sl 7 [], .int .i64 0, .sl 1 [], .int .i64 0, .int .i64 0, .sl 5 [], .int .i64 0, .int .i64 0, .int .i64 0, .int .i64 0, .int .i64 0, .bool false, .sl 2 []] (.t 6), none⟩,
    ⟨some 3, .mv (.t 7), none⟩] none)
  (.seq (.seq (.reg [0, 3, 4] [] [
      ⟨some 4, .mv (.c (.v false (.int .i64 0))), none⟩] none)
    (.blk 0 (.loop pl256_0)))
   (.seq (.reg [2, 3] [] [
      ⟨some 22, .mv (.t 3), none⟩,
      ⟨some 2, .mv (.t 22), none⟩] none)
    (.ret))))

def pf256 : PF := ⟨[.s 2], [], pb256⟩

-- loop.example/g00496/laws.toVal
def pb257 : PC :=
.seq (.reg [1, 2] [] [
   ⟨some 1, .box 3 (.t 0), none⟩,
   ⟨some 2, .alloc [(.v false (.int .i64 0)), (.v false (.int .i64 0)), (.v false (.str ⟨#[]⟩))], none⟩] none)
 (.seq (.reg [1, 2, 3] [] [
    ⟨some 3, .alloc [(.v false (.int .i64 0)), (.v false (.int .i64 0)), (.v false (.str ⟨#[]⟩))], none⟩] none)
  (.seq (.reg [1, 2, 3] [] [
     ⟨some 4, .fad (.t 1) 0, none⟩,
     ⟨some 5, .ld false 1 (.t 4), none⟩,
     ⟨some 6, .fad (.t 3) 0, none⟩,
     ⟨none, .st 1 (.t 6) (.t 5), none⟩] none)
   (.seq (.reg [1, 2, 3] [] [
      ⟨some 7, .fad (.t 1) 1, none⟩,
      ⟨some 8, .ld false 1 (.t 7), none⟩,
      ⟨some 9, .fad (.t 3) 1, none⟩,
      ⟨none, .st 1 (.t 9) (.t 8), none⟩] none)
    (.seq (.reg [2, 3] [] [
       ⟨some 10, .fad (.t 1) 2, none⟩,
       ⟨some 11, .ld false 1 (.t 10), none⟩,
       ⟨some 12, .fad (.t 3) 2, none⟩,
       ⟨none, .st 1 (.t 12) (.t 11), none⟩] none)
     (.seq (.reg [2] [] [
        ⟨some 13, .ld true 3 (.t 3), none⟩,
        ⟨none, .st 3 (.t 2) (.t 13), none⟩] none)
      (.ret))))))

def pf257 : PF := ⟨[.b 2 3 true], [], pb257⟩

-- loop.example/g00496/laws.toValS
def pl258_0 : PC :=
.seq (.seq (.reg [0, 3, 4, 11] [] [
          ⟨some 8, .mv (.t 4), none⟩,
          ⟨some 9, .mv (.t 0), none⟩,
          ⟨some 10, .len (.t 9), none⟩,
          ⟨some 11, .bin .lss (.t 8) (.t 10), none⟩] none)
        (.cond (.t 11) (.skip)
         (.exit 0)))
       (.seq (.blk 1 (.reg [0, 3, 4] [] [
           ⟨some 14, .mv (.t 3), none⟩,
           ⟨some 15, .mv (.t 4), none⟩,
           ⟨some 16, .mv (.t 0), none⟩,
           ⟨some 17, .mv (.t 4), none⟩,
           ⟨some 18, .iad 3 (.t 16) (.t 17), none⟩,
           ⟨some 19, .ld true 3 (.t 18), none⟩,
           ⟨some 20, .call 257 [] [(.t 19)], none⟩,
           ⟨some 21, .iad 3 (.t 14) (.t 15), none⟩,
           ⟨none, .st 3 (.t 21) (.t 20), none⟩] none))
        (.reg [0, 3, 4] [] [
          ⟨some 12, .mv (.t 4), none⟩,
          ⟨some 13, .bin .add (.t 12) (.c (.v false (.int .i64 1))), none⟩,
          ⟨some 4, .mv (.t 13), none⟩] none))

def pb258 : PC :=
.seq (.reg [0] [] [
   ⟨some 2, .mv (.c (.nl 3)), none⟩] none)
 (.seq (.reg [0, 3] [(7, 3)] [
    ⟨some 5, .mv (.t 0), none⟩,
    ⟨some 6, .len (.t 5), none⟩,
    ⟨some 7, .mks 3 32 [.int .i64 0, .int .i64 0, .str ⟨#[]⟩] (.t 6), none⟩,
    ⟨some 3, .mv (.t 7), none⟩] none)
  (.seq (.seq (.reg [0, 3, 4] [] [
      ⟨some 4, .mv (.c (.v false (.int .i64 0))), none⟩] none)
    (.blk 0 (.loop pl258_0)))
   (.seq (.reg [2, 3] [] [
      ⟨some 22, .mv (.t 3), none⟩,
      ⟨some 2, .mv (.t 22), none⟩] none)
    (.ret))))

def pf258 : PF := ⟨[.s 2], [], pb258⟩

-- loop.example/g00496/laws.toWorld
def pb259 : PC :=
.seq (.reg [1, 2] [] [
   ⟨some 1, .box 14 (.t 0), none⟩,
   ⟨some 2, .alloc [(.nl 1), (.v false (.int .i64 0)), (.v false (.int .i64 0)), (.v false (.int .i64 0)), (.v false (.int .i64 0)), (.v false (.int .i64 0)), (.v false (.int .i64 0)), (.nl 5), (.nl 5), (.nl 1), (.nl 3), (.nl 1), (.nl 25), (.nl 25)], none⟩] none)
 (.seq (.reg [1, 2, 3] [] [
    ⟨some 3, .alloc [(.nl 1), (.v false (.int .i64 0)), (.v false (.int .i64 0)), (.v false (.int .i64 0)), (.v false (.int .i64 0)), (.v false (.int .i64 0)), (.v false (.int .i64 0)), (.nl 5), (.nl 5), (.nl 1), (.nl 3), (.nl 1), (.nl 25), (.nl 25)], none⟩] none)
  (.seq (.reg [1, 2, 3] [] [
     ⟨some 4, .fad (.t 1) 0, none⟩,
     ⟨some 5, .ld true 3 (.t 4), none⟩,
     ⟨some 6, .call 238 [] [(.t 5)], none⟩,
     ⟨some 7, .fad (.t 3) 0, none⟩,
     ⟨none, .st 3 (.t 7) (.t 6), none⟩] none)
   (.seq (.reg [1, 2, 3] [] [
      ⟨some 8, .fad (.t 1) 3, none⟩,
      ⟨some 9, .ld false 1 (.t 8), none⟩,
      ⟨some 10, .fad (.t 3) 3, none⟩,
      ⟨none, .st 1 (.t 10) (.t 9), none⟩] none)
    (.seq (.reg [1, 2, 3] [] [
       ⟨some 11, .fad (.t 1) 4, none⟩,
       ⟨some 12, .ld false 1 (.t 11), none⟩,
       ⟨some 13, .fad (.t 3) 4, none⟩,
       ⟨none, .st 1 (.t 13) (.t 12), none⟩] none)
     (.seq (.reg [1, 2, 3] [] [
        ⟨some 14, .fad (.t 1) 5, none⟩,
        ⟨some 15, .ld false 1 (.t 14), none⟩,
        ⟨some 16, .fad (.t 3) 5, none⟩,
        ⟨none, .st 1 (.t 16) (.t 15), none⟩] none)
      (.seq (.reg [1, 2, 3] [] [
         ⟨some 17, .fad (.t 1) 6, none⟩,
         ⟨some 18, .ld true 2 (.t 17), none⟩,
         ⟨some 19, .call 243 [] [(.t 18)], none⟩,
         ⟨some 20, .fad (.t 3) 6, none⟩,
         ⟨none, .st 2 (.t 20) (.t 19), none⟩] none)
       (.seq (.reg [1, 2, 3] [] [
          ⟨some 21, .fad (.t 1) 8, none⟩,
          ⟨some 22, .ld false 1 (.t 21), none⟩,
          ⟨some 23, .call 235 [] [(.t 22)], none⟩,
          ⟨some 24, .fad (.t 3) 8, none⟩,
          ⟨none, .st 1 (.t 24) (.t 23), none⟩] none)
        (.seq (.reg [1, 2, 3] [] [
           ⟨some 25, .fad (.t 1) 9, none⟩,
           ⟨some 26, .ld false 1 (.t 25), none⟩,
           ⟨some 27, .call 244 [] [(.t 26)], none⟩,
           ⟨some 28, .fad (.t 3) 9, none⟩,
           ⟨none, .st 1 (.t 28) (.t 27), none⟩] none)
         (.seq (.reg [1, 2, 3] [] [
            ⟨some 29, .fad (.t 1) 10, none⟩,
            ⟨some 30, .ld false 1 (.t 29), none⟩,
            ⟨some 31, .call 240 [] [(.t 30)], none⟩,
            ⟨some 32, .fad (.t 3) 10, none⟩,
            ⟨none, .st 1 (.t 32) (.t 31), none⟩] none)
          (.seq (.reg [1, 2, 3] [] [
             ⟨some 33, .fad (.t 1) 11, none⟩,
             ⟨some 34, .ld false 1 (.t 33), none⟩,
             ⟨some 35, .call 244 [] [(.t 34)], none⟩,
             ⟨some 36, .fad (.t 3) 11, none⟩,
             ⟨none, .st 1 (.t 36) (.t 35), none⟩] none)
           (.seq (.reg [1, 2, 3] [] [
              ⟨some 37, .fad (.t 1) 12, none⟩,
              ⟨some 38, .ld false 1 (.t 37), none⟩,
              ⟨some 39, .call 256 [] [(.t 38)], none⟩,
              ⟨some 40, .fad (.t 3) 12, none⟩,
              ⟨none, .st 1 (.t 40) (.t 39), none⟩] none)
            (.seq (.reg [2, 3] [] [
               ⟨some 41, .fad (.t 1) 13, none⟩,
               ⟨some 42, .ld false 1 (.t 41), none⟩,
               ⟨some 43, .call 242 [] [(.t 42)], none⟩,
               ⟨some 44, .fad (.t 3) 13, none⟩,
               ⟨none, .st 1 (.t 44) (.t 43), none⟩] none)
             (.seq (.reg [2] [] [
                ⟨some 45, .ld true 14 (.t 3), none⟩,
                ⟨none, .st 14 (.t 2) (.t 45), none⟩] none)
              (.ret))))))))))))))

def pf259 : PF := ⟨[.b 2 14 true], [], pb259⟩

-- loop.example/g00496/spec.EndsClaimed
def pl297_0 : PC :=
.seq (.seq (.reg [1, 3, 4, 10] [] [
          ⟨some 6, .mv (.t 4), none⟩,
          ⟨some 7, .fad (.t 1) 9, none⟩,
          ⟨some 8, .ld false 1 (.t 7), none⟩,
          ⟨some 9, .len (.t 8), none⟩,
          ⟨some 10, .bin .lss (.t 6) (.t 9), none⟩] none)
        (.cond (.t 10) (.skip)
         (.exit 0)))
       (.seq (.blk 1 (.seq (.reg [1, 3, 4, 18] [] [
            ⟨some 13, .fad (.t 1) 9, none⟩,
            ⟨some 14, .ld false 1 (.t 13), none⟩,
            ⟨some 15, .mv (.t 4), none⟩,
            ⟨some 16, .iad 1 (.t 14) (.t 15), none⟩,
            ⟨some 17, .ld false 1 (.t 16), none⟩,
            ⟨some 18, .call 312 [] [(.t 17)], none⟩] none)
          (.cond (.t 18) (.reg [1, 3, 4] [(22, 3)] [
             ⟨some 19, .mv (.t 3), none⟩,
             ⟨some 20, .mv (.t 4), none⟩,
             ⟨some 21, .bsl 1 [.int .i64 0] 1 [(0, (.t 20))], none⟩,
             ⟨some 22, .app 1 8 (.t 19) (.t 21), none⟩,
             ⟨some 3, .mv (.t 22), none⟩] none)
           (.skip))))
        (.reg [1, 3, 4] [] [
          ⟨some 11, .mv (.t 4), none⟩,
          ⟨some 12, .bin .add (.t 11) (.c (.v false (.int .i64 1))), none⟩,
          ⟨some 4, .mv (.t 12), none⟩] none))

def pb297 : PC :=
.seq (.reg [1] [] [
   ⟨some 1, .box 14 (.t 0), none⟩,
   ⟨some 2, .mv (.c (.nl 1)), none⟩] none)
 (.seq (.reg [1, 3] [(5, 3)] [
    ⟨some 5, .bsl 1 [] 0 [], none⟩,
    ⟨some 3, .mv (.t 5), none⟩] none)
  (.seq (.seq (.reg [1, 3, 4] [] [
      ⟨some 4, .mv (.c (.v false (.int .i64 0))), none⟩] none)
    (.blk 0 (.loop pl297_0)))
   (.seq (.reg [2, 3] [] [
      ⟨some 23, .mv (.t 3), none⟩,
      ⟨some 2, .mv (.t 23), none⟩] none)
    (.ret))))

def pf297 : PF := ⟨[.s 2], [], pb297⟩

-- loop.example/g00496/spec.NeedsHelp
def pb312 : PC :=
.seq (.reg [0] [] [
   ⟨some 2, .mv (.c (.v false (.bool false))), none⟩] none)
 (.seq (.reg [2] [] [
    ⟨some 3, .mv (.t 0), none⟩,
    ⟨some 4, .bin .eql (.t 3) (.c (.v false (.int .i64 (-1)))), none⟩,
    ⟨some 2, .mv (.t 4), none⟩] none)
  (.ret))

def pf312 : PF := ⟨[.s 2], [], pb312⟩

end Go.Proofs.Ytnadnanmgakkfaa.OM
