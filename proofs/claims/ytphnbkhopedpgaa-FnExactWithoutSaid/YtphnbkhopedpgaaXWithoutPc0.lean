/- The texts of the functions, as the own machine runs them. -/
import Derived.Test.YtphnbkhopedpgaaOMDef
set_option linter.all false
namespace Go.Proofs.Ytphnbkhopedpgaa.OM
set_option maxRecDepth 100000

-- loop.example/g00496/impl.Without
def pb64 : PC :=
.seq (.reg [0, 1] [] [
   ⟨some 4, .mv (.c (.nl 3)), none⟩] none)
 (.seq (.reg [0, 1, 5] [(8, 5)] [
    ⟨some 6, .bsl 3 [] 0 [], none⟩,
    ⟨some 7, .mv (.t 0), none⟩,
    ⟨some 8, .app 3 24 (.t 6) (.t 7), none⟩,
    ⟨some 5, .mv (.t 8), none⟩] none)
  (.seq (.seq (.reg [1, 5, 16] [] [
      ⟨some 9, .mv (.t 1), none⟩,
      ⟨some 10, .bin .lss (.t 9) (.c (.v false (.int .i64 0))), none⟩,
      ⟨some 11, .mv (.t 10), none⟩,
      ⟨some 12, .mv (.t 1), some (11, false)⟩,
      ⟨some 13, .mv (.t 0), some (11, false)⟩,
      ⟨some 14, .len (.t 13), some (11, false)⟩,
      ⟨some 15, .bin .geq (.t 12) (.t 14), some (11, false)⟩,
      ⟨some 16, .pick (.t 11) (.c (.v false (.bool true))) (.t 15), none⟩] none)
    (.cond (.t 16) (.seq (.reg [4, 5] [] [
        ⟨some 17, .mv (.t 5), none⟩,
        ⟨some 4, .mv (.t 17), none⟩] none)
      (.ret))
     (.skip)))
   (.seq (.reg [4] [(25, 4)] [
      ⟨some 18, .mv (.t 5), none⟩,
      ⟨some 19, .mv (.t 1), none⟩,
      ⟨some 20, .slc 3 (.t 18) none (some (.t 19)), none⟩,
      ⟨some 21, .mv (.t 5), none⟩,
      ⟨some 22, .mv (.t 1), none⟩,
      ⟨some 23, .bin .add (.t 22) (.c (.v false (.int .i64 1))), none⟩,
      ⟨some 24, .slc 3 (.t 21) (some (.t 23)) none, none⟩,
      ⟨some 25, .app 3 24 (.t 20) (.t 24), none⟩,
      ⟨some 4, .mv (.t 25), none⟩] (some []))
    (.ret))))

def pf64 : PF := ⟨[.s 4], [], pb64⟩

-- loop.example/g00496/laws.FnExactWithout
def pb136 : PC :=
.seq (.reg [0, 1] [] [
   ⟨some 4, .mv (.c (.v false (.bool false))), none⟩] none)
 (.seq (.reg [0, 1, 5] [] [
    ⟨some 5, .mv (.c (.v false (.int .i64 1048576))), none⟩] none)
  (.seq (.reg [0, 1, 5] [(15, 5)] [
     ⟨some 13, .mv (.t 0), none⟩,
     ⟨some 14, .mv (.t 5), none⟩,
     ⟨some 15, .call 215 [] [(.t 13), (.t 14)], none⟩,
     ⟨some 5, .mv (.t 15), none⟩] none)
   (.seq (.seq (.reg [0, 1, 17] [] [
       ⟨some 16, .mv (.t 5), none⟩,
       ⟨some 17, .bin .lss (.t 16) (.c (.v false (.int .i64 0))), none⟩] none)
     (.cond (.t 17) (.seq (.reg [4] [] [
         ⟨some 4, .mv (.c (.v false (.bool true))), none⟩] none)
       (.ret))
      (.skip)))
    (.seq (.reg [0, 1, 6] [(21, 6)] [
       ⟨some 18, .mv (.t 0), none⟩,
       ⟨some 19, .call 240 [] [(.t 18)], none⟩,
       ⟨some 20, .mv (.t 1), none⟩,
       ⟨some 21, .call 345 [] [(.t 19), (.t 20)], none⟩,
       ⟨some 6, .mv (.t 21), none⟩] none)
     (.seq (.reg [0, 1, 6, 7] [(23, 7)] [
        ⟨some 22, .mv (.t 0), none⟩,
        ⟨some 23, .call 240 [] [(.t 22)], none⟩,
        ⟨some 7, .mv (.t 23), none⟩] none)
      (.seq (.reg [0, 1, 6, 7, 8] [(26, 8)] [
         ⟨some 24, .mv (.t 7), none⟩,
         ⟨some 25, .mv (.t 1), none⟩,
         ⟨some 26, .call 64 [] [(.t 24), (.t 25)], none⟩,
         ⟨some 8, .mv (.t 26), none⟩] none)
       (.seq (.seq (.reg [0, 1, 6, 7, 8, 30] [] [
           ⟨some 27, .mv (.t 8), none⟩,
           ⟨some 28, .mv (.t 6), none⟩,
           ⟨some 29, .call 148 [] [(.t 27), (.t 28)], none⟩,
           ⟨some 30, .un .not (.t 29), none⟩] none)
         (.cond (.t 30) (.seq (.reg [4] [] [
             ⟨some 4, .mv (.c (.v false (.bool false))), none⟩] none)
           (.ret))
          (.skip)))
        (.seq (.seq (.reg [0, 1, 6, 7, 8, 35] [] [
            ⟨some 31, .mv (.t 7), none⟩,
            ⟨some 32, .mv (.t 0), none⟩,
            ⟨some 33, .call 240 [] [(.t 32)], none⟩,
            ⟨some 34, .call 148 [] [(.t 31), (.t 33)], none⟩,
            ⟨some 35, .un .not (.t 34), none⟩] none)
          (.cond (.t 35) (.seq (.reg [4] [] [
              ⟨some 4, .mv (.c (.v false (.bool false))), none⟩] none)
            (.ret))
           (.skip)))
         (.seq (.reg [0, 1, 6, 7, 8, 9] [] [
            ⟨some 9, .mv (.c (.v false (.int .i64 1))), none⟩] none)
          (.seq (.reg [0, 1, 6, 8, 9] [(38, 9)] [
             ⟨some 36, .mv (.t 7), none⟩,
             ⟨some 37, .mv (.t 9), none⟩,
             ⟨some 38, .call 187 [0] [(.t 36), (.t 37)], none⟩,
             ⟨some 9, .mv (.t 38), none⟩] none)
           (.seq (.seq (.reg [0, 1, 6, 8, 46] [] [
               ⟨some 39, .mv (.t 9), none⟩,
               ⟨some 40, .bin .lss (.t 39) (.c (.v false (.int .i64 0))), none⟩,
               ⟨some 41, .mv (.t 40), none⟩,
               ⟨some 42, .mv (.t 8), some (41, false)⟩,
               ⟨some 43, .mv (.t 6), some (41, false)⟩,
               ⟨some 44, .call 148 [] [(.t 42), (.t 43)], some (41, false)⟩,
               ⟨some 45, .un .not (.t 44), some (41, false)⟩,
               ⟨some 46, .pick (.t 41) (.c (.v false (.bool true))) (.t 45), none⟩] none)
             (.cond (.t 46) (.seq (.reg [4] [] [
                 ⟨some 4, .mv (.c (.v false (.bool false))), none⟩] none)
               (.ret))
              (.skip)))
            (.seq (.reg [0, 1, 6, 8, 10] [] [
               ⟨some 10, .mv (.c (.v false (.int .i64 1))), none⟩] none)
             (.seq (.reg [0, 1, 6, 8, 10] [(49, 10)] [
                ⟨some 47, .mv (.t 8), none⟩,
                ⟨some 48, .mv (.t 10), none⟩,
                ⟨some 49, .call 187 [0] [(.t 47), (.t 48)], none⟩,
                ⟨some 10, .mv (.t 49), none⟩] none)
              (.seq (.reg [0, 1, 6, 8, 10, 11] [] [
                 ⟨some 11, .mv (.c (.v false (.int .i64 1))), none⟩] none)
               (.seq (.reg [0, 1, 6, 8, 10, 11] [(52, 11)] [
                  ⟨some 50, .mv (.t 8), none⟩,
                  ⟨some 51, .mv (.t 11), none⟩,
                  ⟨some 52, .call 172 [] [(.t 50), (.t 51)], none⟩,
                  ⟨some 11, .mv (.t 52), none⟩] none)
                (.seq (.seq (.reg [0, 1, 6, 8, 10, 11, 54] [] [
                    ⟨some 53, .mv (.t 11), none⟩,
                    ⟨some 54, .bin .lss (.t 53) (.c (.v false (.int .i64 0))), none⟩] none)
                  (.cond (.t 54) (.seq (.reg [4] [] [
                      ⟨some 4, .mv (.c (.v false (.bool false))), none⟩] none)
                    (.ret))
                   (.skip)))
                 (.seq (.seq (.reg [0, 1, 6, 8, 10, 57] [] [
                     ⟨some 55, .mv (.t 11), none⟩,
                     ⟨some 56, .mv (.t 10), none⟩,
                     ⟨some 57, .bin .neq (.t 55) (.t 56), none⟩] none)
                   (.cond (.t 57) (.seq (.reg [4] [] [
                       ⟨some 4, .mv (.c (.v false (.bool false))), none⟩] none)
                     (.ret))
                    (.skip)))
                  (.seq (.reg [6, 8, 10, 12] [(61, 12)] [
                     ⟨some 58, .mv (.t 0), none⟩,
                     ⟨some 59, .call 240 [] [(.t 58)], none⟩,
                     ⟨some 60, .mv (.t 1), none⟩,
                     ⟨some 61, .call 64 [] [(.t 59), (.t 60)], none⟩,
                     ⟨some 12, .mv (.t 61), none⟩] none)
                   (.seq (.seq (.reg [8, 10, 65] [] [
                       ⟨some 62, .mv (.t 12), none⟩,
                       ⟨some 63, .mv (.t 6), none⟩,
                       ⟨some 64, .call 148 [] [(.t 62), (.t 63)], none⟩,
                       ⟨some 65, .un .not (.t 64), none⟩] none)
                     (.cond (.t 65) (.seq (.reg [4] [] [
                         ⟨some 4, .mv (.c (.v false (.bool false))), none⟩] none)
                       (.ret))
                      (.skip)))
                    (.seq (.reg [8, 10, 11] [] [
                       ⟨some 11, .mv (.c (.v false (.int .i64 1))), none⟩] none)
                     (.seq (.reg [10, 11] [(68, 11)] [
                        ⟨some 66, .mv (.t 8), none⟩,
                        ⟨some 67, .mv (.t 11), none⟩,
                        ⟨some 68, .call 172 [] [(.t 66), (.t 67)], none⟩,
                        ⟨some 11, .mv (.t 68), none⟩] none)
                      (.seq (.seq (.reg [10, 11, 70] [] [
                          ⟨some 69, .mv (.t 11), none⟩,
                          ⟨some 70, .bin .lss (.t 69) (.c (.v false (.int .i64 0))), none⟩] none)
                        (.cond (.t 70) (.seq (.reg [4] [] [
                            ⟨some 4, .mv (.c (.v false (.bool false))), none⟩] none)
                          (.ret))
                         (.skip)))
                       (.seq (.seq (.reg [73] [] [
                           ⟨some 71, .mv (.t 11), none⟩,
                           ⟨some 72, .mv (.t 10), none⟩,
                           ⟨some 73, .bin .neq (.t 71) (.t 72), none⟩] none)
                         (.cond (.t 73) (.seq (.reg [4] [] [
                             ⟨some 4, .mv (.c (.v false (.bool false))), none⟩] none)
                           (.ret))
                          (.skip)))
                        (.seq (.reg [4] [] [
                           ⟨some 4, .mv (.c (.v false (.bool true))), none⟩] none)
                         (.ret)))))))))))))))))))))))))

def pf136 : PF := ⟨[.s 4], [], pb136⟩

-- loop.example/g00496/laws.eqDead
def pb147 : PC :=
.seq (.reg [2, 3] [] [
   ⟨some 2, .box 3 (.t 0), none⟩,
   ⟨some 3, .box 3 (.t 1), none⟩,
   ⟨some 4, .mv (.c (.v false (.bool false))), none⟩] none)
 (.seq (.seq (.reg [2, 3, 9] [] [
     ⟨some 5, .fad (.t 2) 0, none⟩,
     ⟨some 6, .ld false 1 (.t 5), none⟩,
     ⟨some 7, .fad (.t 3) 0, none⟩,
     ⟨some 8, .ld false 1 (.t 7), none⟩,
     ⟨some 9, .bin .neq (.t 6) (.t 8), none⟩] none)
   (.cond (.t 9) (.seq (.reg [4] [] [
       ⟨some 4, .mv (.c (.v false (.bool false))), none⟩] none)
     (.ret))
    (.skip)))
  (.seq (.seq (.reg [2, 3, 14] [] [
      ⟨some 10, .fad (.t 2) 1, none⟩,
      ⟨some 11, .ld false 1 (.t 10), none⟩,
      ⟨some 12, .fad (.t 3) 1, none⟩,
      ⟨some 13, .ld false 1 (.t 12), none⟩,
      ⟨some 14, .bin .neq (.t 11) (.t 13), none⟩] none)
    (.cond (.t 14) (.seq (.reg [4] [] [
        ⟨some 4, .mv (.c (.v false (.bool false))), none⟩] none)
      (.ret))
     (.skip)))
   (.seq (.seq (.reg [19] [] [
       ⟨some 15, .fad (.t 2) 2, none⟩,
       ⟨some 16, .ld false 1 (.t 15), none⟩,
       ⟨some 17, .fad (.t 3) 2, none⟩,
       ⟨some 18, .ld false 1 (.t 17), none⟩,
       ⟨some 19, .bin .neq (.t 16) (.t 18), none⟩] none)
     (.cond (.t 19) (.seq (.reg [4] [] [
         ⟨some 4, .mv (.c (.v false (.bool false))), none⟩] none)
       (.ret))
      (.skip)))
    (.seq (.reg [4] [] [
       ⟨some 4, .mv (.c (.v false (.bool true))), none⟩] none)
     (.ret)))))

def pf147 : PF := ⟨[.s 4], [], pb147⟩

-- loop.example/g00496/laws.eqDeadS
def pl148_0 : PC :=
.seq (.seq (.reg [0, 1, 5, 14] [] [
          ⟨some 11, .mv (.t 5), none⟩,
          ⟨some 12, .mv (.t 0), none⟩,
          ⟨some 13, .len (.t 12), none⟩,
          ⟨some 14, .bin .lss (.t 11) (.t 13), none⟩] none)
        (.cond (.t 14) (.skip)
         (.exit 0)))
       (.seq (.blk 1 (.seq (.reg [0, 1, 5, 26] [] [
            ⟨some 17, .mv (.t 0), none⟩,
            ⟨some 18, .mv (.t 5), none⟩,
            ⟨some 19, .iad 3 (.t 17) (.t 18), none⟩,
            ⟨some 20, .ld true 3 (.t 19), none⟩,
            ⟨some 21, .mv (.t 1), none⟩,
            ⟨some 22, .mv (.t 5), none⟩,
            ⟨some 23, .iad 3 (.t 21) (.t 22), none⟩,
            ⟨some 24, .ld true 3 (.t 23), none⟩,
            ⟨some 25, .call 147 [] [(.t 20), (.t 24)], none⟩,
            ⟨some 26, .un .not (.t 25), none⟩] (some []))
          (.cond (.t 26) (.seq (.reg [4] [] [
              ⟨some 4, .mv (.c (.v false (.bool false))), none⟩] none)
            (.ret))
           (.skip))))
        (.reg [0, 1, 5] [] [
          ⟨some 15, .mv (.t 5), none⟩,
          ⟨some 16, .bin .add (.t 15) (.c (.v false (.int .i64 1))), none⟩,
          ⟨some 5, .mv (.t 16), none⟩] none))

def pb148 : PC :=
.seq (.reg [0, 1] [] [
   ⟨some 4, .mv (.c (.v false (.bool false))), none⟩] none)
 (.seq (.seq (.reg [0, 1, 10] [] [
     ⟨some 6, .mv (.t 0), none⟩,
     ⟨some 7, .len (.t 6), none⟩,
     ⟨some 8, .mv (.t 1), none⟩,
     ⟨some 9, .len (.t 8), none⟩,
     ⟨some 10, .bin .neq (.t 7) (.t 9), none⟩] none)
   (.cond (.t 10) (.seq (.reg [4] [] [
       ⟨some 4, .mv (.c (.v false (.bool false))), none⟩] none)
     (.ret))
    (.skip)))
  (.seq (.seq (.reg [0, 1, 5] [] [
      ⟨some 5, .mv (.c (.v false (.int .i64 0))), none⟩] none)
    (.blk 0 (.loop pl148_0)))
   (.seq (.reg [4] [] [
      ⟨some 4, .mv (.c (.v false (.bool true))), none⟩] none)
    (.ret))))

def pf148 : PF := ⟨[.s 4], [], pb148⟩

-- loop.example/g00496/laws.heldDeadS
def pl172_0 : PC :=
.seq (.seq (.reg [0, 1, 5, 9] [] [
         ⟨some 6, .mv (.t 5), none⟩,
         ⟨some 7, .mv (.t 0), none⟩,
         ⟨some 8, .len (.t 7), none⟩,
         ⟨some 9, .bin .lss (.t 6) (.t 8), none⟩] none)
       (.cond (.t 9) (.skip)
        (.exit 0)))
      (.seq (.blk 1 (.seq (.seq (.reg [0, 1, 5, 18] [] [
            ⟨some 12, .mv (.t 0), none⟩,
            ⟨some 13, .mv (.t 5), none⟩,
            ⟨some 14, .iad 3 (.t 12) (.t 13), none⟩,
            ⟨some 15, .fad (.t 14) 0, none⟩,
            ⟨some 16, .ld false 1 (.t 15), none⟩,
            ⟨some 17, .mv (.t 1), none⟩,
            ⟨some 18, .bin .neq (.t 16) (.t 17), none⟩] none)
          (.cond (.t 18) (.seq (.reg [4] [] [
              ⟨some 4, .mv (.c (.v false (.int .i64 (-1)))), none⟩] none)
            (.ret))
           (.skip)))
         (.seq (.reg [0, 1, 5] [] [
            ⟨some 19, .mv (.t 1), none⟩,
            ⟨some 20, .bin .add (.t 19) (.c (.v false (.int .i64 1))), none⟩,
            ⟨some 1, .mv (.t 20), none⟩] none)
          (.seq (.seq (.reg [0, 1, 5, 27] [] [
              ⟨some 21, .mv (.t 0), none⟩,
              ⟨some 22, .mv (.t 5), none⟩,
              ⟨some 23, .iad 3 (.t 21) (.t 22), none⟩,
              ⟨some 24, .fad (.t 23) 1, none⟩,
              ⟨some 25, .ld false 1 (.t 24), none⟩,
              ⟨some 26, .mv (.t 1), none⟩,
              ⟨some 27, .bin .neq (.t 25) (.t 26), none⟩] none)
            (.cond (.t 27) (.seq (.reg [4] [] [
                ⟨some 4, .mv (.c (.v false (.int .i64 (-1)))), none⟩] none)
              (.ret))
             (.skip)))
           (.seq (.reg [0, 1, 5] [] [
              ⟨some 28, .mv (.t 1), none⟩,
              ⟨some 29, .bin .add (.t 28) (.c (.v false (.int .i64 1))), none⟩,
              ⟨some 1, .mv (.t 29), none⟩] none)
            (.seq (.seq (.reg [0, 1, 5, 36] [] [
                ⟨some 30, .mv (.t 0), none⟩,
                ⟨some 31, .mv (.t 5), none⟩,
                ⟨some 32, .iad 3 (.t 30) (.t 31), none⟩,
                ⟨some 33, .fad (.t 32) 2, none⟩,
                ⟨some 34, .ld false 1 (.t 33), none⟩,
                ⟨some 35, .mv (.t 1), none⟩,
                ⟨some 36, .bin .neq (.t 34) (.t 35), none⟩] none)
              (.cond (.t 36) (.seq (.reg [4] [] [
                  ⟨some 4, .mv (.c (.v false (.int .i64 (-1)))), none⟩] none)
                (.ret))
               (.skip)))
             (.reg [0, 1, 5] [] [
               ⟨some 37, .mv (.t 1), none⟩,
               ⟨some 38, .bin .add (.t 37) (.c (.v false (.int .i64 1))), none⟩,
               ⟨some 1, .mv (.t 38), none⟩] none)))))))
       (.reg [0, 1, 5] [] [
         ⟨some 10, .mv (.t 5), none⟩,
         ⟨some 11, .bin .add (.t 10) (.c (.v false (.int .i64 1))), none⟩,
         ⟨some 5, .mv (.t 11), none⟩] none))

def pb172 : PC :=
.seq (.reg [0, 1] [] [
   ⟨some 4, .mv (.c (.v false (.int .i64 0))), none⟩] none)
 (.seq (.seq (.reg [0, 1, 5] [] [
     ⟨some 5, .mv (.c (.v false (.int .i64 0))), none⟩] none)
   (.blk 0 (.loop pl172_0)))
  (.seq (.reg [4] [] [
     ⟨some 39, .mv (.t 1), none⟩,
     ⟨some 4, .mv (.t 39), none⟩] none)
   (.ret)))

def pf172 : PF := ⟨[.s 4], [], pb172⟩

-- loop.example/g00496/laws.markDeadS
def pl187_0 : PC :=
.seq (.seq (.reg [0, 1, 5, 9] [] [
         ⟨some 6, .mv (.t 5), none⟩,
         ⟨some 7, .mv (.t 0), none⟩,
         ⟨some 8, .len (.t 7), none⟩,
         ⟨some 9, .bin .lss (.t 6) (.t 8), none⟩] none)
       (.cond (.t 9) (.skip)
        (.exit 0)))
      (.seq (.blk 1 (.seq (.reg [0, 1, 5] [] [
           ⟨some 12, .mv (.t 0), none⟩,
           ⟨some 13, .mv (.t 5), none⟩,
           ⟨some 14, .mv (.t 1), none⟩,
           ⟨some 15, .iad 3 (.t 12) (.t 13), none⟩,
           ⟨some 16, .fad (.t 15) 0, none⟩,
           ⟨none, .st 1 (.t 16) (.t 14), none⟩] none)
         (.seq (.reg [0, 1, 5] [] [
            ⟨some 17, .mv (.t 1), none⟩,
            ⟨some 18, .bin .add (.t 17) (.c (.v false (.int .i64 1))), none⟩,
            ⟨some 1, .mv (.t 18), none⟩] none)
          (.seq (.reg [0, 1, 5] [] [
             ⟨some 19, .mv (.t 0), none⟩,
             ⟨some 20, .mv (.t 5), none⟩,
             ⟨some 21, .mv (.t 1), none⟩,
             ⟨some 22, .iad 3 (.t 19) (.t 20), none⟩,
             ⟨some 23, .fad (.t 22) 1, none⟩,
             ⟨none, .st 1 (.t 23) (.t 21), none⟩] none)
           (.seq (.reg [0, 1, 5] [] [
              ⟨some 24, .mv (.t 1), none⟩,
              ⟨some 25, .bin .add (.t 24) (.c (.v false (.int .i64 1))), none⟩,
              ⟨some 1, .mv (.t 25), none⟩] none)
            (.seq (.reg [0, 1, 5] [] [
               ⟨some 26, .mv (.t 0), none⟩,
               ⟨some 27, .mv (.t 5), none⟩,
               ⟨some 28, .mv (.t 1), none⟩,
               ⟨some 29, .iad 3 (.t 26) (.t 27), none⟩,
               ⟨some 30, .fad (.t 29) 2, none⟩,
               ⟨none, .st 1 (.t 30) (.t 28), none⟩] none)
             (.reg [0, 1, 5] [] [
               ⟨some 31, .mv (.t 1), none⟩,
               ⟨some 32, .bin .add (.t 31) (.c (.v false (.int .i64 1))), none⟩,
               ⟨some 1, .mv (.t 32), none⟩] none)))))))
       (.reg [0, 1, 5] [] [
         ⟨some 10, .mv (.t 5), none⟩,
         ⟨some 11, .bin .add (.t 10) (.c (.v false (.int .i64 1))), none⟩,
         ⟨some 5, .mv (.t 11), none⟩] none))

def pb187 : PC :=
.seq (.reg [0, 1] [] [
   ⟨some 4, .mv (.c (.v false (.int .i64 0))), none⟩] none)
 (.seq (.seq (.reg [0, 1, 5] [] [
     ⟨some 5, .mv (.c (.v false (.int .i64 0))), none⟩] none)
   (.blk 0 (.loop pl187_0)))
  (.seq (.reg [0, 4] [] [
     ⟨some 33, .mv (.t 1), none⟩,
     ⟨some 4, .mv (.t 33), none⟩] none)
   (.ret)))

def pf187 : PF := ⟨[.s 4], [0], pb187⟩

-- loop.example/g00496/laws.szDeadS
def pb215 : PC :=
.seq (.reg [0, 1] [] [
   ⟨some 4, .mv (.c (.v false (.int .i64 0))), none⟩] none)
 (.seq (.reg [1] [] [
    ⟨some 5, .mv (.t 1), none⟩,
    ⟨some 6, .mv (.t 0), none⟩,
    ⟨some 7, .len (.t 6), none⟩,
    ⟨some 8, .bin .sub (.t 5) (.t 7), none⟩,
    ⟨some 1, .mv (.t 8), none⟩] none)
  (.seq (.seq (.reg [1, 10] [] [
      ⟨some 9, .mv (.t 1), none⟩,
      ⟨some 10, .bin .lss (.t 9) (.c (.v false (.int .i64 0))), none⟩] none)
    (.cond (.t 10) (.seq (.reg [4] [] [
        ⟨some 4, .mv (.c (.v false (.int .i64 (-1)))), none⟩] none)
      (.ret))
     (.skip)))
   (.seq (.reg [4] [] [
      ⟨some 11, .mv (.t 1), none⟩,
      ⟨some 4, .mv (.t 11), none⟩] none)
    (.ret))))

def pf215 : PF := ⟨[.s 4], [], pb215⟩

-- loop.example/g00496/laws.toDead
def pb239 : PC :=
.seq (.reg [1, 2] [] [
   ⟨some 1, .box 3 (.t 0), none⟩,
   ⟨some 2, .alloc [(.v false (.int .i64 0)), (.v false (.int .i64 0)), (.v false (.int .i64 0))], none⟩] none)
 (.seq (.reg [1, 2, 3] [] [
    ⟨some 3, .alloc [(.v false (.int .i64 0)), (.v false (.int .i64 0)), (.v false (.int .i64 0))], none⟩] none)
  (.seq (.reg [1, 2, 3] [] [
     ⟨some 4, .fad (.t 1) 0, none⟩,
     ⟨some 5, .ld false 1 (.t 4), none⟩,
     ⟨some 6, .fad (.t 3) 0, none⟩,
     ⟨none, .st 1 (.t 6) (.t 5), none⟩] none)
   (.seq (.reg [1, 2, 3] [] [
      ⟨some 7, .fad (.t 1) 1, none⟩,
      ⟨some 8, .ld false 1 (.t 7), none⟩,
      ⟨some 9, .fad (.t 3) 1, none⟩,
      ⟨none, .st 1 (.t 9) (.t 8), none⟩] none)
    (.seq (.reg [2, 3] [] [
       ⟨some 10, .fad (.t 1) 2, none⟩,
       ⟨some 11, .ld false 1 (.t 10), none⟩,
       ⟨some 12, .fad (.t 3) 2, none⟩,
       ⟨none, .st 1 (.t 12) (.t 11), none⟩] none)
     (.seq (.reg [2] [] [
        ⟨some 13, .ld true 3 (.t 3), none⟩,
        ⟨none, .st 3 (.t 2) (.t 13), none⟩] none)
      (.ret))))))

def pf239 : PF := ⟨[.b 2 3 true], [], pb239⟩

-- loop.example/g00496/laws.toDeadS
def pl240_0 : PC :=
.seq (.seq (.reg [0, 3, 4, 11] [] [
          ⟨some 8, .mv (.t 4), none⟩,
          ⟨some 9, .mv (.t 0), none⟩,
          ⟨some 10, .len (.t 9), none⟩,
          ⟨some 11, .bin .lss (.t 8) (.t 10), none⟩] none)
        (.cond (.t 11) (.skip)
         (.exit 0)))
       (.seq (.blk 1 (.reg [0, 3, 4] [] [
           ⟨some 14, .mv (.t 3), none⟩,
           ⟨some 15, .mv (.t 4), none⟩,
           ⟨some 16, .mv (.t 0), none⟩,
           ⟨some 17, .mv (.t 4), none⟩,
           ⟨some 18, .iad 3 (.t 16) (.t 17), none⟩,
           ⟨some 19, .ld true 3 (.t 18), none⟩,
           ⟨some 20, .call 239 [] [(.t 19)], none⟩,
           ⟨some 21, .iad 3 (.t 14) (.t 15), none⟩,
           ⟨none, .st 3 (.t 21) (.t 20), none⟩] none))
        (.reg [0, 3, 4] [] [
          ⟨some 12, .mv (.t 4), none⟩,
          ⟨some 13, .bin .add (.t 12) (.c (.v false (.int .i64 1))), none⟩,
          ⟨some 4, .mv (.t 13), none⟩] none))

def pb240 : PC :=
.seq (.reg [0] [] [
   ⟨some 2, .mv (.c (.nl 3)), none⟩] none)
 (.seq (.reg [0, 3] [(7, 3)] [
    ⟨some 5, .mv (.t 0), none⟩,
    ⟨some 6, .len (.t 5), none⟩,
    ⟨some 7, .mks 3 24 [.int .i64 0, .int .i64 0, .int .i64 0] (.t 6), none⟩,
    ⟨some 3, .mv (.t 7), none⟩] none)
  (.seq (.seq (.reg [0, 3, 4] [] [
      ⟨some 4, .mv (.c (.v false (.int .i64 0))), none⟩] none)
    (.blk 0 (.loop pl240_0)))
   (.seq (.reg [2, 3] [] [
      ⟨some 22, .mv (.t 3), none⟩,
      ⟨some 2, .mv (.t 22), none⟩] none)
    (.ret))))

def pf240 : PF := ⟨[.s 2], [], pb240⟩

-- loop.example/g00496/spec.Without
def pl345_0 : PC :=
.seq (.seq (.reg [0, 1, 5, 6, 11] [] [
          ⟨some 8, .mv (.t 6), none⟩,
          ⟨some 9, .mv (.t 0), none⟩,
          ⟨some 10, .len (.t 9), none⟩,
          ⟨some 11, .bin .lss (.t 8) (.t 10), none⟩] none)
        (.cond (.t 11) (.skip)
         (.exit 0)))
       (.seq (.blk 1 (.seq (.reg [0, 1, 5, 6, 16] [] [
            ⟨some 14, .mv (.t 6), none⟩,
            ⟨some 15, .mv (.t 1), none⟩,
            ⟨some 16, .bin .neq (.t 14) (.t 15), none⟩] none)
          (.cond (.t 16) (.reg [0, 1, 5, 6] [(23, 5)] [
             ⟨some 17, .mv (.t 5), none⟩,
             ⟨some 18, .mv (.t 0), none⟩,
             ⟨some 19, .mv (.t 6), none⟩,
             ⟨some 20, .iad 3 (.t 18) (.t 19), none⟩,
             ⟨some 21, .ld true 3 (.t 20), none⟩,
             ⟨some 22, .bsl 3 [.int .i64 0, .int .i64 0, .int .i64 0] 1 [(0, (.t 21))], none⟩,
             ⟨some 23, .app 3 24 (.t 17) (.t 22), none⟩,
             ⟨some 5, .mv (.t 23), none⟩] none)
           (.skip))))
        (.reg [0, 1, 5, 6] [] [
          ⟨some 12, .mv (.t 6), none⟩,
          ⟨some 13, .bin .add (.t 12) (.c (.v false (.int .i64 1))), none⟩,
          ⟨some 6, .mv (.t 13), none⟩] none))

def pb345 : PC :=
.seq (.reg [0, 1] [] [
   ⟨some 4, .mv (.c (.nl 3)), none⟩] none)
 (.seq (.reg [0, 1, 5] [(7, 5)] [
    ⟨some 7, .bsl 3 [] 0 [], none⟩,
    ⟨some 5, .mv (.t 7), none⟩] none)
  (.seq (.seq (.reg [0, 1, 5, 6] [] [
      ⟨some 6, .mv (.c (.v false (.int .i64 0))), none⟩] none)
    (.blk 0 (.loop pl345_0)))
   (.seq (.reg [4, 5] [] [
      ⟨some 24, .mv (.t 5), none⟩,
      ⟨some 4, .mv (.t 24), none⟩] none)
    (.ret))))

def pf345 : PF := ⟨[.s 4], [], pb345⟩

end Go.Proofs.Ytphnbkhopedpgaa.OM
