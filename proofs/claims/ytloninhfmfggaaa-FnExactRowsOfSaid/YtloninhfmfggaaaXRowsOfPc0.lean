/- The texts of the functions, as the own machine runs them. -/
import Derived.Test.YtloninhfmfggaaaOMDef
set_option linter.all false
namespace Go.Proofs.Ytloninhfmfggaaa.OM
set_option maxRecDepth 100000

-- loop.example/g00496/impl.Came
def pb7 : PC :=
.seq (.reg [0, 1] [] [
   ⟨some 4, .mv (.c (.v false (.bool false))), none⟩] none)
 (.seq (.reg [4] [] [
    ⟨some 5, .mv (.t 0), none⟩,
    ⟨some 6, .bin .geq (.t 5) (.c (.v false (.int .i64 1))), none⟩,
    ⟨some 7, .mv (.t 6), none⟩,
    ⟨some 8, .mv (.t 0), some (7, true)⟩,
    ⟨some 9, .mv (.t 1), some (7, true)⟩,
    ⟨some 10, .bin .leq (.t 8) (.t 9), some (7, true)⟩,
    ⟨some 11, .pick (.t 7) (.t 10) (.c (.v false (.bool false))), none⟩,
    ⟨some 4, .mv (.t 11), none⟩] none)
  (.ret))

def pf7 : PF := ⟨[.s 4], [], pb7⟩

-- loop.example/g00496/impl.RowsOf
def pl44_0 : PC :=
.seq (.reg [1, 2, 3, 7, 12, 13, 14, 15] [] [
         ⟨some 15, .bin .lss (.t 14) (.t 13), none⟩] none)
       (.seq (.cond (.t 15) (.skip)
         (.exit 0))
        (.seq (.blk 1 (.seq (.reg [1, 2, 3, 7, 8, 9, 12, 13, 14] [] [
             ⟨some 16, .mv (.t 14), none⟩,
             ⟨some 17, .iad 2 (.t 12) (.t 14), none⟩,
             ⟨some 18, .ld true 2 (.t 17), none⟩,
             ⟨some 9, .alloc [(.v false (.int .i64 0)), (.nl 3)], none⟩,
             ⟨some 8, .mv (.t 16), none⟩,
             ⟨none, .st 2 (.t 9) (.t 18), none⟩] none)
           (.seq (.reg [1, 2, 3, 7, 8, 9, 12, 13, 14, 22] [] [
              ⟨some 19, .fad (.t 9) 0, none⟩,
              ⟨some 20, .ld false 1 (.t 19), none⟩,
              ⟨some 21, .mv (.t 2), none⟩,
              ⟨some 22, .call 7 [] [(.t 20), (.t 21)], none⟩] none)
            (.cond (.t 22) (.reg [1, 2, 3, 7, 12, 13, 14] [(32, 7)] [
               ⟨some 23, .mv (.t 7), none⟩,
               ⟨some 24, .mv (.t 1), none⟩,
               ⟨some 25, .mv (.t 8), none⟩,
               ⟨some 26, .bin .add (.t 24) (.t 25), none⟩,
               ⟨some 27, .fad (.t 9) 1, none⟩,
               ⟨some 28, .ld false 1 (.t 27), none⟩,
               ⟨some 29, .call 76 [] [(.t 28)], none⟩,
               ⟨some 30, .build [(.v false (.int .i64 0)), (.nl 3)] [(0, 1, (.t 26)), (1, 1, (.t 29))], none⟩,
               ⟨some 31, .bsl 2 [.int .i64 0, .sl 3 []] 1 [(0, (.t 30))], none⟩,
               ⟨some 32, .app 2 32 (.t 23) (.t 31), none⟩,
               ⟨some 7, .mv (.t 32), none⟩] none)
             (.skip)))))
         (.reg [1, 2, 3, 7, 12, 13, 14] [] [
           ⟨some 33, .bin .add (.t 14) (.c (.v false (.int .i64 1))), none⟩,
           ⟨some 14, .mv (.t 33), none⟩] none)))

def pb44 : PC :=
.seq (.reg [1, 2, 3] [] [
   ⟨some 3, .box 2 (.t 0), none⟩,
   ⟨some 6, .mv (.c (.nl 2)), none⟩] none)
 (.seq (.reg [1, 2, 3, 7] [(10, 7)] [
    ⟨some 10, .bsl 2 [] 0 [], none⟩,
    ⟨some 7, .mv (.t 10), none⟩] none)
  (.seq (.seq (.reg [1, 2, 3, 7, 12, 13, 14] [] [
      ⟨some 11, .fad (.t 3) 1, none⟩,
      ⟨some 12, .ld false 1 (.t 11), none⟩,
      ⟨some 13, .len (.t 12), none⟩,
      ⟨some 14, .mv (.c (.v false (.int .i64 0))), none⟩] none)
    (.blk 0 (.loop pl44_0)))
   (.seq (.reg [6, 7] [] [
      ⟨some 34, .mv (.t 7), none⟩,
      ⟨some 6, .mv (.t 34), none⟩] none)
    (.ret))))

def pf44 : PF := ⟨[.s 6], [], pb44⟩

-- loop.example/g00496/impl.cloneVals
def pb76 : PC :=
.seq (.reg [0] [] [
   ⟨some 2, .mv (.c (.nl 3)), none⟩] none)
 (.seq (.reg [2] [(5, 2)] [
    ⟨some 3, .bsl 3 [] 0 [], none⟩,
    ⟨some 4, .mv (.t 0), none⟩,
    ⟨some 5, .app 3 32 (.t 3) (.t 4), none⟩,
    ⟨some 2, .mv (.t 5), none⟩] none)
  (.ret))

def pf76 : PF := ⟨[.s 2], [], pb76⟩

-- loop.example/g00496/laws.FnExactRowsOf
def pb123 : PC :=
.seq (.reg [1, 2, 3] [] [
   ⟨some 3, .box 2 (.t 0), none⟩,
   ⟨some 6, .mv (.c (.v false (.bool false))), none⟩] none)
 (.seq (.reg [1, 2, 3, 7] [] [
    ⟨some 7, .mv (.c (.v false (.int .i64 1048576))), none⟩] none)
  (.seq (.reg [1, 2, 3, 7] [(17, 7)] [
     ⟨some 15, .ld true 2 (.t 3), none⟩,
     ⟨some 16, .mv (.t 7), none⟩,
     ⟨some 17, .call 213 [] [(.t 15), (.t 16)], none⟩,
     ⟨some 7, .mv (.t 17), none⟩] none)
   (.seq (.seq (.reg [1, 2, 3, 19] [] [
       ⟨some 18, .mv (.t 7), none⟩,
       ⟨some 19, .bin .lss (.t 18) (.c (.v false (.int .i64 0))), none⟩] none)
     (.cond (.t 19) (.seq (.reg [6] [] [
         ⟨some 6, .mv (.c (.v false (.bool true))), none⟩] none)
       (.ret))
      (.skip)))
    (.seq (.reg [1, 2, 3, 8] [(24, 8)] [
       ⟨some 20, .ld true 2 (.t 3), none⟩,
       ⟨some 21, .call 237 [] [(.t 20)], none⟩,
       ⟨some 22, .mv (.t 1), none⟩,
       ⟨some 23, .mv (.t 2), none⟩,
       ⟨some 24, .call 325 [] [(.t 21), (.t 22), (.t 23)], none⟩,
       ⟨some 8, .mv (.t 24), none⟩] none)
     (.seq (.reg [1, 2, 3, 8, 9] [] [
        ⟨some 25, .ld true 2 (.t 3), none⟩,
        ⟨some 26, .call 237 [] [(.t 25)], none⟩,
        ⟨some 9, .alloc [(.v false (.int .i64 0)), (.nl 2)], none⟩,
        ⟨none, .st 2 (.t 9) (.t 26), none⟩] none)
      (.seq (.reg [1, 2, 3, 8, 9, 10] [(30, 10)] [
         ⟨some 27, .ld true 2 (.t 9), none⟩,
         ⟨some 28, .mv (.t 1), none⟩,
         ⟨some 29, .mv (.t 2), none⟩,
         ⟨some 30, .call 44 [] [(.t 27), (.t 28), (.t 29)], none⟩,
         ⟨some 10, .mv (.t 30), none⟩] none)
       (.seq (.seq (.reg [1, 2, 3, 8, 9, 10, 34] [] [
           ⟨some 31, .mv (.t 10), none⟩,
           ⟨some 32, .mv (.t 8), none⟩,
           ⟨some 33, .call 160 [] [(.t 31), (.t 32)], none⟩,
           ⟨some 34, .un .not (.t 33), none⟩] none)
         (.cond (.t 34) (.seq (.reg [6] [] [
             ⟨some 6, .mv (.c (.v false (.bool false))), none⟩] none)
           (.ret))
          (.skip)))
        (.seq (.seq (.reg [1, 2, 3, 8, 9, 10, 39] [] [
            ⟨some 35, .ld true 2 (.t 9), none⟩,
            ⟨some 36, .ld true 2 (.t 3), none⟩,
            ⟨some 37, .call 237 [] [(.t 36)], none⟩,
            ⟨some 38, .call 145 [] [(.t 35), (.t 37)], none⟩,
            ⟨some 39, .un .not (.t 38), none⟩] (some [(0, 2)]))
          (.cond (.t 39) (.seq (.reg [6] [] [
              ⟨some 6, .mv (.c (.v false (.bool false))), none⟩] none)
            (.ret))
           (.skip)))
         (.seq (.reg [1, 2, 3, 8, 9, 10, 11] [] [
            ⟨some 11, .mv (.c (.v false (.int .i64 1))), none⟩] none)
          (.seq (.reg [1, 2, 3, 8, 10, 11] [(42, 11)] [
             ⟨some 40, .ld true 2 (.t 9), none⟩,
             ⟨some 41, .mv (.t 11), none⟩,
             ⟨some 42, .call 185 [0] [(.t 40), (.t 41)], none⟩,
             ⟨some 11, .mv (.t 42), none⟩] none)
           (.seq (.seq (.reg [1, 2, 3, 8, 10, 50] [] [
               ⟨some 43, .mv (.t 11), none⟩,
               ⟨some 44, .bin .lss (.t 43) (.c (.v false (.int .i64 0))), none⟩,
               ⟨some 45, .mv (.t 44), none⟩,
               ⟨some 46, .mv (.t 10), some (45, false)⟩,
               ⟨some 47, .mv (.t 8), some (45, false)⟩,
               ⟨some 48, .call 160 [] [(.t 46), (.t 47)], some (45, false)⟩,
               ⟨some 49, .un .not (.t 48), some (45, false)⟩,
               ⟨some 50, .pick (.t 45) (.c (.v false (.bool true))) (.t 49), none⟩] none)
             (.cond (.t 50) (.seq (.reg [6] [] [
                 ⟨some 6, .mv (.c (.v false (.bool false))), none⟩] none)
               (.ret))
              (.skip)))
            (.seq (.reg [1, 2, 3, 8, 10, 12] [] [
               ⟨some 12, .mv (.c (.v false (.int .i64 1))), none⟩] none)
             (.seq (.reg [1, 2, 3, 8, 10, 12] [(53, 12)] [
                ⟨some 51, .mv (.t 10), none⟩,
                ⟨some 52, .mv (.t 12), none⟩,
                ⟨some 53, .call 193 [0] [(.t 51), (.t 52)], none⟩,
                ⟨some 12, .mv (.t 53), none⟩] none)
              (.seq (.reg [1, 2, 3, 8, 10, 12, 13] [] [
                 ⟨some 13, .mv (.c (.v false (.int .i64 1))), none⟩] none)
               (.seq (.reg [1, 2, 3, 8, 10, 12, 13] [(56, 13)] [
                  ⟨some 54, .mv (.t 10), none⟩,
                  ⟨some 55, .mv (.t 13), none⟩,
                  ⟨some 56, .call 178 [] [(.t 54), (.t 55)], none⟩,
                  ⟨some 13, .mv (.t 56), none⟩] none)
                (.seq (.seq (.reg [1, 2, 3, 8, 10, 12, 13, 58] [] [
                    ⟨some 57, .mv (.t 13), none⟩,
                    ⟨some 58, .bin .lss (.t 57) (.c (.v false (.int .i64 0))), none⟩] none)
                  (.cond (.t 58) (.seq (.reg [6] [] [
                      ⟨some 6, .mv (.c (.v false (.bool false))), none⟩] none)
                    (.ret))
                   (.skip)))
                 (.seq (.seq (.reg [1, 2, 3, 8, 10, 12, 61] [] [
                     ⟨some 59, .mv (.t 13), none⟩,
                     ⟨some 60, .mv (.t 12), none⟩,
                     ⟨some 61, .bin .neq (.t 59) (.t 60), none⟩] none)
                   (.cond (.t 61) (.seq (.reg [6] [] [
                       ⟨some 6, .mv (.c (.v false (.bool false))), none⟩] none)
                     (.ret))
                    (.skip)))
                  (.seq (.reg [8, 10, 12, 14] [(66, 14)] [
                     ⟨some 62, .ld true 2 (.t 3), none⟩,
                     ⟨some 63, .call 237 [] [(.t 62)], none⟩,
                     ⟨some 64, .mv (.t 1), none⟩,
                     ⟨some 65, .mv (.t 2), none⟩,
                     ⟨some 66, .call 44 [] [(.t 63), (.t 64), (.t 65)], none⟩,
                     ⟨some 14, .mv (.t 66), none⟩] none)
                   (.seq (.seq (.reg [10, 12, 70] [] [
                       ⟨some 67, .mv (.t 14), none⟩,
                       ⟨some 68, .mv (.t 8), none⟩,
                       ⟨some 69, .call 160 [] [(.t 67), (.t 68)], none⟩,
                       ⟨some 70, .un .not (.t 69), none⟩] none)
                     (.cond (.t 70) (.seq (.reg [6] [] [
                         ⟨some 6, .mv (.c (.v false (.bool false))), none⟩] none)
                       (.ret))
                      (.skip)))
                    (.seq (.reg [10, 12, 13] [] [
                       ⟨some 13, .mv (.c (.v false (.int .i64 1))), none⟩] none)
                     (.seq (.reg [12, 13] [(73, 13)] [
                        ⟨some 71, .mv (.t 10), none⟩,
                        ⟨some 72, .mv (.t 13), none⟩,
                        ⟨some 73, .call 178 [] [(.t 71), (.t 72)], none⟩,
                        ⟨some 13, .mv (.t 73), none⟩] none)
                      (.seq (.seq (.reg [12, 13, 75] [] [
                          ⟨some 74, .mv (.t 13), none⟩,
                          ⟨some 75, .bin .lss (.t 74) (.c (.v false (.int .i64 0))), none⟩] none)
                        (.cond (.t 75) (.seq (.reg [6] [] [
                            ⟨some 6, .mv (.c (.v false (.bool false))), none⟩] none)
                          (.ret))
                         (.skip)))
                       (.seq (.seq (.reg [78] [] [
                           ⟨some 76, .mv (.t 13), none⟩,
                           ⟨some 77, .mv (.t 12), none⟩,
                           ⟨some 78, .bin .neq (.t 76) (.t 77), none⟩] none)
                         (.cond (.t 78) (.seq (.reg [6] [] [
                             ⟨some 6, .mv (.c (.v false (.bool false))), none⟩] none)
                           (.ret))
                          (.skip)))
                        (.seq (.reg [6] [] [
                           ⟨some 6, .mv (.c (.v false (.bool true))), none⟩] none)
                         (.ret)))))))))))))))))))))))))

def pf123 : PF := ⟨[.s 6], [], pb123⟩

-- loop.example/g00496/laws.eqChunk
def pb145 : PC :=
.seq (.reg [2, 3] [] [
   ⟨some 2, .box 2 (.t 0), none⟩,
   ⟨some 3, .box 2 (.t 1), none⟩,
   ⟨some 4, .mv (.c (.v false (.bool false))), none⟩] none)
 (.seq (.seq (.reg [2, 3, 9] [] [
     ⟨some 5, .fad (.t 2) 0, none⟩,
     ⟨some 6, .ld false 1 (.t 5), none⟩,
     ⟨some 7, .fad (.t 3) 0, none⟩,
     ⟨some 8, .ld false 1 (.t 7), none⟩,
     ⟨some 9, .bin .neq (.t 6) (.t 8), none⟩] none)
   (.cond (.t 9) (.seq (.reg [4] [] [
       ⟨some 4, .mv (.c (.v false (.bool false))), none⟩] none)
     (.ret))
    (.skip)))
  (.seq (.seq (.reg [15] [] [
      ⟨some 10, .fad (.t 2) 1, none⟩,
      ⟨some 11, .ld false 1 (.t 10), none⟩,
      ⟨some 12, .fad (.t 3) 1, none⟩,
      ⟨some 13, .ld false 1 (.t 12), none⟩,
      ⟨some 14, .call 162 [] [(.t 11), (.t 13)], none⟩,
      ⟨some 15, .un .not (.t 14), none⟩] none)
    (.cond (.t 15) (.seq (.reg [4] [] [
        ⟨some 4, .mv (.c (.v false (.bool false))), none⟩] none)
      (.ret))
     (.skip)))
   (.seq (.reg [4] [] [
      ⟨some 4, .mv (.c (.v false (.bool true))), none⟩] none)
    (.ret))))

def pf145 : PF := ⟨[.s 4], [], pb145⟩

-- loop.example/g00496/laws.eqRow
def pb159 : PC :=
.seq (.reg [2, 3] [] [
   ⟨some 2, .box 2 (.t 0), none⟩,
   ⟨some 3, .box 2 (.t 1), none⟩,
   ⟨some 4, .mv (.c (.v false (.bool false))), none⟩] none)
 (.seq (.seq (.reg [2, 3, 9] [] [
     ⟨some 5, .fad (.t 2) 0, none⟩,
     ⟨some 6, .ld false 1 (.t 5), none⟩,
     ⟨some 7, .fad (.t 3) 0, none⟩,
     ⟨some 8, .ld false 1 (.t 7), none⟩,
     ⟨some 9, .bin .neq (.t 6) (.t 8), none⟩] none)
   (.cond (.t 9) (.seq (.reg [4] [] [
       ⟨some 4, .mv (.c (.v false (.bool false))), none⟩] none)
     (.ret))
    (.skip)))
  (.seq (.seq (.reg [15] [] [
      ⟨some 10, .fad (.t 2) 1, none⟩,
      ⟨some 11, .ld false 1 (.t 10), none⟩,
      ⟨some 12, .fad (.t 3) 1, none⟩,
      ⟨some 13, .ld false 1 (.t 12), none⟩,
      ⟨some 14, .call 166 [] [(.t 11), (.t 13)], none⟩,
      ⟨some 15, .un .not (.t 14), none⟩] none)
    (.cond (.t 15) (.seq (.reg [4] [] [
        ⟨some 4, .mv (.c (.v false (.bool false))), none⟩] none)
      (.ret))
     (.skip)))
   (.seq (.reg [4] [] [
      ⟨some 4, .mv (.c (.v false (.bool true))), none⟩] none)
    (.ret))))

def pf159 : PF := ⟨[.s 4], [], pb159⟩

-- loop.example/g00496/laws.eqRowS
def pl160_0 : PC :=
.seq (.seq (.reg [0, 1, 5, 14] [] [
          ⟨some 11, .mv (.t 5), none⟩,
          ⟨some 12, .mv (.t 0), none⟩,
          ⟨some 13, .len (.t 12), none⟩,
          ⟨some 14, .bin .lss (.t 11) (.t 13), none⟩] none)
        (.cond (.t 14) (.skip)
         (.exit 0)))
       (.seq (.blk 1 (.seq (.reg [0, 1, 5, 26] [] [
            ⟨some 17, .mv (.t 0), none⟩,
            ⟨some 18, .mv (.t 5), none⟩,
            ⟨some 19, .iad 2 (.t 17) (.t 18), none⟩,
            ⟨some 20, .ld true 2 (.t 19), none⟩,
            ⟨some 21, .mv (.t 1), none⟩,
            ⟨some 22, .mv (.t 5), none⟩,
            ⟨some 23, .iad 2 (.t 21) (.t 22), none⟩,
            ⟨some 24, .ld true 2 (.t 23), none⟩,
            ⟨some 25, .call 159 [] [(.t 20), (.t 24)], none⟩,
            ⟨some 26, .un .not (.t 25), none⟩] (some []))
          (.cond (.t 26) (.seq (.reg [4] [] [
              ⟨some 4, .mv (.c (.v false (.bool false))), none⟩] none)
            (.ret))
           (.skip))))
        (.reg [0, 1, 5] [] [
          ⟨some 15, .mv (.t 5), none⟩,
          ⟨some 16, .bin .add (.t 15) (.c (.v false (.int .i64 1))), none⟩,
          ⟨some 5, .mv (.t 16), none⟩] none))

def pb160 : PC :=
.seq (.reg [0, 1] [] [
   ⟨some 4, .mv (.c (.v false (.bool false))), none⟩] none)
 (.seq (.seq (.reg [0, 1, 10] [] [
     ⟨some 6, .mv (.t 0), none⟩,
     ⟨some 7, .len (.t 6), none⟩,
     ⟨some 8, .mv (.t 1), none⟩,
     ⟨some 9, .len (.t 8), none⟩,
     ⟨some 10, .bin .neq (.t 7) (.t 9), none⟩] none)
   (.cond (.t 10) (.seq (.reg [4] [] [
       ⟨some 4, .mv (.c (.v false (.bool false))), none⟩] none)
     (.ret))
    (.skip)))
  (.seq (.seq (.reg [0, 1, 5] [] [
      ⟨some 5, .mv (.c (.v false (.int .i64 0))), none⟩] none)
    (.blk 0 (.loop pl160_0)))
   (.seq (.reg [4] [] [
      ⟨some 4, .mv (.c (.v false (.bool true))), none⟩] none)
    (.ret))))

def pf160 : PF := ⟨[.s 4], [], pb160⟩

-- loop.example/g00496/laws.eqSlot
def pb161 : PC :=
.seq (.reg [2, 3] [] [
   ⟨some 2, .box 2 (.t 0), none⟩,
   ⟨some 3, .box 2 (.t 1), none⟩,
   ⟨some 4, .mv (.c (.v false (.bool false))), none⟩] none)
 (.seq (.seq (.reg [2, 3, 9] [] [
     ⟨some 5, .fad (.t 2) 0, none⟩,
     ⟨some 6, .ld false 1 (.t 5), none⟩,
     ⟨some 7, .fad (.t 3) 0, none⟩,
     ⟨some 8, .ld false 1 (.t 7), none⟩,
     ⟨some 9, .bin .neq (.t 6) (.t 8), none⟩] none)
   (.cond (.t 9) (.seq (.reg [4] [] [
       ⟨some 4, .mv (.c (.v false (.bool false))), none⟩] none)
     (.ret))
    (.skip)))
  (.seq (.seq (.reg [15] [] [
      ⟨some 10, .fad (.t 2) 1, none⟩,
      ⟨some 11, .ld false 1 (.t 10), none⟩,
      ⟨some 12, .fad (.t 3) 1, none⟩,
      ⟨some 13, .ld false 1 (.t 12), none⟩,
      ⟨some 14, .call 166 [] [(.t 11), (.t 13)], none⟩,
      ⟨some 15, .un .not (.t 14), none⟩] none)
    (.cond (.t 15) (.seq (.reg [4] [] [
        ⟨some 4, .mv (.c (.v false (.bool false))), none⟩] none)
      (.ret))
     (.skip)))
   (.seq (.reg [4] [] [
      ⟨some 4, .mv (.c (.v false (.bool true))), none⟩] none)
    (.ret))))

def pf161 : PF := ⟨[.s 4], [], pb161⟩

-- loop.example/g00496/laws.eqSlotS
def pl162_0 : PC :=
.seq (.seq (.reg [0, 1, 5, 14] [] [
          ⟨some 11, .mv (.t 5), none⟩,
          ⟨some 12, .mv (.t 0), none⟩,
          ⟨some 13, .len (.t 12), none⟩,
          ⟨some 14, .bin .lss (.t 11) (.t 13), none⟩] none)
        (.cond (.t 14) (.skip)
         (.exit 0)))
       (.seq (.blk 1 (.seq (.reg [0, 1, 5, 26] [] [
            ⟨some 17, .mv (.t 0), none⟩,
            ⟨some 18, .mv (.t 5), none⟩,
            ⟨some 19, .iad 2 (.t 17) (.t 18), none⟩,
            ⟨some 20, .ld true 2 (.t 19), none⟩,
            ⟨some 21, .mv (.t 1), none⟩,
            ⟨some 22, .mv (.t 5), none⟩,
            ⟨some 23, .iad 2 (.t 21) (.t 22), none⟩,
            ⟨some 24, .ld true 2 (.t 23), none⟩,
            ⟨some 25, .call 161 [] [(.t 20), (.t 24)], none⟩,
            ⟨some 26, .un .not (.t 25), none⟩] (some []))
          (.cond (.t 26) (.seq (.reg [4] [] [
              ⟨some 4, .mv (.c (.v false (.bool false))), none⟩] none)
            (.ret))
           (.skip))))
        (.reg [0, 1, 5] [] [
          ⟨some 15, .mv (.t 5), none⟩,
          ⟨some 16, .bin .add (.t 15) (.c (.v false (.int .i64 1))), none⟩,
          ⟨some 5, .mv (.t 16), none⟩] none))

def pb162 : PC :=
.seq (.reg [0, 1] [] [
   ⟨some 4, .mv (.c (.v false (.bool false))), none⟩] none)
 (.seq (.seq (.reg [0, 1, 10] [] [
     ⟨some 6, .mv (.t 0), none⟩,
     ⟨some 7, .len (.t 6), none⟩,
     ⟨some 8, .mv (.t 1), none⟩,
     ⟨some 9, .len (.t 8), none⟩,
     ⟨some 10, .bin .neq (.t 7) (.t 9), none⟩] none)
   (.cond (.t 10) (.seq (.reg [4] [] [
       ⟨some 4, .mv (.c (.v false (.bool false))), none⟩] none)
     (.ret))
    (.skip)))
  (.seq (.seq (.reg [0, 1, 5] [] [
      ⟨some 5, .mv (.c (.v false (.int .i64 0))), none⟩] none)
    (.blk 0 (.loop pl162_0)))
   (.seq (.reg [4] [] [
      ⟨some 4, .mv (.c (.v false (.bool true))), none⟩] none)
    (.ret))))

def pf162 : PF := ⟨[.s 4], [], pb162⟩

-- loop.example/g00496/laws.eqVal
def pb165 : PC :=
.seq (.reg [2, 3] [] [
   ⟨some 2, .box 3 (.t 0), none⟩,
   ⟨some 3, .box 3 (.t 1), none⟩,
   ⟨some 4, .mv (.c (.v false (.bool false))), none⟩] none)
 (.seq (.seq (.reg [2, 3, 9] [] [
     ⟨some 5, .fad (.t 2) 0, none⟩,
     ⟨some 6, .ld false 1 (.t 5), none⟩,
     ⟨some 7, .fad (.t 3) 0, none⟩,
     ⟨some 8, .ld false 1 (.t 7), none⟩,
     ⟨some 9, .bin .neq (.t 6) (.t 8), none⟩] none)
   (.cond (.t 9) (.seq (.reg [4] [] [
       ⟨some 4, .mv (.c (.v false (.bool false))), none⟩] none)
     (.ret))
    (.skip)))
  (.seq (.seq (.reg [2, 3, 14] [] [
      ⟨some 10, .fad (.t 2) 1, none⟩,
      ⟨some 11, .ld false 1 (.t 10), none⟩,
      ⟨some 12, .fad (.t 3) 1, none⟩,
      ⟨some 13, .ld false 1 (.t 12), none⟩,
      ⟨some 14, .bin .neq (.t 11) (.t 13), none⟩] none)
    (.cond (.t 14) (.seq (.reg [4] [] [
        ⟨some 4, .mv (.c (.v false (.bool false))), none⟩] none)
      (.ret))
     (.skip)))
   (.seq (.seq (.reg [19] [] [
       ⟨some 15, .fad (.t 2) 2, none⟩,
       ⟨some 16, .ld false 1 (.t 15), none⟩,
       ⟨some 17, .fad (.t 3) 2, none⟩,
       ⟨some 18, .ld false 1 (.t 17), none⟩,
       ⟨some 19, .bin .neq (.t 16) (.t 18), none⟩] none)
     (.cond (.t 19) (.seq (.reg [4] [] [
         ⟨some 4, .mv (.c (.v false (.bool false))), none⟩] none)
       (.ret))
      (.skip)))
    (.seq (.reg [4] [] [
       ⟨some 4, .mv (.c (.v false (.bool true))), none⟩] none)
     (.ret)))))

def pf165 : PF := ⟨[.s 4], [], pb165⟩

-- loop.example/g00496/laws.eqValS
def pl166_0 : PC :=
.seq (.seq (.reg [0, 1, 5, 14] [] [
          ⟨some 11, .mv (.t 5), none⟩,
          ⟨some 12, .mv (.t 0), none⟩,
          ⟨some 13, .len (.t 12), none⟩,
          ⟨some 14, .bin .lss (.t 11) (.t 13), none⟩] none)
        (.cond (.t 14) (.skip)
         (.exit 0)))
       (.seq (.blk 1 (.seq (.reg [0, 1, 5, 26] [] [
            ⟨some 17, .mv (.t 0), none⟩,
            ⟨some 18, .mv (.t 5), none⟩,
            ⟨some 19, .iad 3 (.t 17) (.t 18), none⟩,
            ⟨some 20, .ld true 3 (.t 19), none⟩,
            ⟨some 21, .mv (.t 1), none⟩,
            ⟨some 22, .mv (.t 5), none⟩,
            ⟨some 23, .iad 3 (.t 21) (.t 22), none⟩,
            ⟨some 24, .ld true 3 (.t 23), none⟩,
            ⟨some 25, .call 165 [] [(.t 20), (.t 24)], none⟩,
            ⟨some 26, .un .not (.t 25), none⟩] (some []))
          (.cond (.t 26) (.seq (.reg [4] [] [
              ⟨some 4, .mv (.c (.v false (.bool false))), none⟩] none)
            (.ret))
           (.skip))))
        (.reg [0, 1, 5] [] [
          ⟨some 15, .mv (.t 5), none⟩,
          ⟨some 16, .bin .add (.t 15) (.c (.v false (.int .i64 1))), none⟩,
          ⟨some 5, .mv (.t 16), none⟩] none))

def pb166 : PC :=
.seq (.reg [0, 1] [] [
   ⟨some 4, .mv (.c (.v false (.bool false))), none⟩] none)
 (.seq (.seq (.reg [0, 1, 10] [] [
     ⟨some 6, .mv (.t 0), none⟩,
     ⟨some 7, .len (.t 6), none⟩,
     ⟨some 8, .mv (.t 1), none⟩,
     ⟨some 9, .len (.t 8), none⟩,
     ⟨some 10, .bin .neq (.t 7) (.t 9), none⟩] none)
   (.cond (.t 10) (.seq (.reg [4] [] [
       ⟨some 4, .mv (.c (.v false (.bool false))), none⟩] none)
     (.ret))
    (.skip)))
  (.seq (.seq (.reg [0, 1, 5] [] [
      ⟨some 5, .mv (.c (.v false (.int .i64 0))), none⟩] none)
    (.blk 0 (.loop pl166_0)))
   (.seq (.reg [4] [] [
      ⟨some 4, .mv (.c (.v false (.bool true))), none⟩] none)
    (.ret))))

def pf166 : PF := ⟨[.s 4], [], pb166⟩

-- loop.example/g00496/laws.heldRowS
def pl178_0 : PC :=
.seq (.seq (.reg [0, 1, 5, 9] [] [
         ⟨some 6, .mv (.t 5), none⟩,
         ⟨some 7, .mv (.t 0), none⟩,
         ⟨some 8, .len (.t 7), none⟩,
         ⟨some 9, .bin .lss (.t 6) (.t 8), none⟩] none)
       (.cond (.t 9) (.skip)
        (.exit 0)))
      (.seq (.blk 1 (.seq (.seq (.reg [0, 1, 5, 18] [] [
            ⟨some 12, .mv (.t 0), none⟩,
            ⟨some 13, .mv (.t 5), none⟩,
            ⟨some 14, .iad 2 (.t 12) (.t 13), none⟩,
            ⟨some 15, .fad (.t 14) 0, none⟩,
            ⟨some 16, .ld false 1 (.t 15), none⟩,
            ⟨some 17, .mv (.t 1), none⟩,
            ⟨some 18, .bin .neq (.t 16) (.t 17), none⟩] none)
          (.cond (.t 18) (.seq (.reg [4] [] [
              ⟨some 4, .mv (.c (.v false (.int .i64 (-1)))), none⟩] none)
            (.ret))
           (.skip)))
         (.seq (.reg [0, 1, 5] [] [
            ⟨some 19, .mv (.t 1), none⟩,
            ⟨some 20, .bin .add (.t 19) (.c (.v false (.int .i64 1))), none⟩,
            ⟨some 1, .mv (.t 20), none⟩] none)
          (.seq (.reg [0, 1, 5] [(27, 1)] [
             ⟨some 21, .mv (.t 0), none⟩,
             ⟨some 22, .mv (.t 5), none⟩,
             ⟨some 23, .iad 2 (.t 21) (.t 22), none⟩,
             ⟨some 24, .fad (.t 23) 1, none⟩,
             ⟨some 25, .ld false 1 (.t 24), none⟩,
             ⟨some 26, .mv (.t 1), none⟩,
             ⟨some 27, .call 181 [] [(.t 25), (.t 26)], none⟩,
             ⟨some 1, .mv (.t 27), none⟩] none)
           (.seq (.reg [0, 1, 5, 29] [] [
              ⟨some 28, .mv (.t 1), none⟩,
              ⟨some 29, .bin .lss (.t 28) (.c (.v false (.int .i64 0))), none⟩] none)
            (.cond (.t 29) (.seq (.reg [4] [] [
                ⟨some 4, .mv (.c (.v false (.int .i64 (-1)))), none⟩] none)
              (.ret))
             (.skip)))))))
       (.reg [0, 1, 5] [] [
         ⟨some 10, .mv (.t 5), none⟩,
         ⟨some 11, .bin .add (.t 10) (.c (.v false (.int .i64 1))), none⟩,
         ⟨some 5, .mv (.t 11), none⟩] none))

def pb178 : PC :=
.seq (.reg [0, 1] [] [
   ⟨some 4, .mv (.c (.v false (.int .i64 0))), none⟩] none)
 (.seq (.seq (.reg [0, 1, 5] [] [
     ⟨some 5, .mv (.c (.v false (.int .i64 0))), none⟩] none)
   (.blk 0 (.loop pl178_0)))
  (.seq (.reg [1, 4] [] [
     ⟨some 30, .mv (.t 1), none⟩,
     ⟨some 4, .mv (.t 30), none⟩] none)
   (.ret)))

def pf178 : PF := ⟨[.s 4], [], pb178⟩

-- loop.example/g00496/laws.heldValS
def pl181_0 : PC :=
.seq (.seq (.reg [0, 1, 5, 9] [] [
         ⟨some 6, .mv (.t 5), none⟩,
         ⟨some 7, .mv (.t 0), none⟩,
         ⟨some 8, .len (.t 7), none⟩,
         ⟨some 9, .bin .lss (.t 6) (.t 8), none⟩] none)
       (.cond (.t 9) (.skip)
        (.exit 0)))
      (.seq (.blk 1 (.seq (.seq (.reg [0, 1, 5, 18] [] [
            ⟨some 12, .mv (.t 0), none⟩,
            ⟨some 13, .mv (.t 5), none⟩,
            ⟨some 14, .iad 3 (.t 12) (.t 13), none⟩,
            ⟨some 15, .fad (.t 14) 0, none⟩,
            ⟨some 16, .ld false 1 (.t 15), none⟩,
            ⟨some 17, .mv (.t 1), none⟩,
            ⟨some 18, .bin .neq (.t 16) (.t 17), none⟩] none)
          (.cond (.t 18) (.seq (.reg [4] [] [
              ⟨some 4, .mv (.c (.v false (.int .i64 (-1)))), none⟩] none)
            (.ret))
           (.skip)))
         (.seq (.reg [0, 1, 5] [] [
            ⟨some 19, .mv (.t 1), none⟩,
            ⟨some 20, .bin .add (.t 19) (.c (.v false (.int .i64 1))), none⟩,
            ⟨some 1, .mv (.t 20), none⟩] none)
          (.seq (.seq (.reg [0, 1, 5, 27] [] [
              ⟨some 21, .mv (.t 0), none⟩,
              ⟨some 22, .mv (.t 5), none⟩,
              ⟨some 23, .iad 3 (.t 21) (.t 22), none⟩,
              ⟨some 24, .fad (.t 23) 1, none⟩,
              ⟨some 25, .ld false 1 (.t 24), none⟩,
              ⟨some 26, .mv (.t 1), none⟩,
              ⟨some 27, .bin .neq (.t 25) (.t 26), none⟩] none)
            (.cond (.t 27) (.seq (.reg [4] [] [
                ⟨some 4, .mv (.c (.v false (.int .i64 (-1)))), none⟩] none)
              (.ret))
             (.skip)))
           (.seq (.reg [0, 1, 5] [] [
              ⟨some 28, .mv (.t 1), none⟩,
              ⟨some 29, .bin .add (.t 28) (.c (.v false (.int .i64 1))), none⟩,
              ⟨some 1, .mv (.t 29), none⟩] none)
            (.seq (.seq (.reg [0, 1, 5, 37] [] [
                ⟨some 30, .mv (.t 0), none⟩,
                ⟨some 31, .mv (.t 5), none⟩,
                ⟨some 32, .iad 3 (.t 30) (.t 31), none⟩,
                ⟨some 33, .fad (.t 32) 2, none⟩,
                ⟨some 34, .ld false 1 (.t 33), none⟩,
                ⟨some 35, .mv (.t 1), none⟩,
                ⟨some 36, .call 196 [] [(.t 35)], none⟩,
                ⟨some 37, .bin .neq (.t 34) (.t 36), none⟩] (some [(2, 6), (4, 6)]))
              (.cond (.t 37) (.seq (.reg [4] [] [
                  ⟨some 4, .mv (.c (.v false (.int .i64 (-1)))), none⟩] none)
                (.ret))
               (.skip)))
             (.reg [0, 1, 5] [] [
               ⟨some 38, .mv (.t 1), none⟩,
               ⟨some 39, .bin .add (.t 38) (.c (.v false (.int .i64 1))), none⟩,
               ⟨some 1, .mv (.t 39), none⟩] none)))))))
       (.reg [0, 1, 5] [] [
         ⟨some 10, .mv (.t 5), none⟩,
         ⟨some 11, .bin .add (.t 10) (.c (.v false (.int .i64 1))), none⟩,
         ⟨some 5, .mv (.t 11), none⟩] none))

def pb181 : PC :=
.seq (.reg [0, 1] [] [
   ⟨some 4, .mv (.c (.v false (.int .i64 0))), none⟩] none)
 (.seq (.seq (.reg [0, 1, 5] [] [
     ⟨some 5, .mv (.c (.v false (.int .i64 0))), none⟩] none)
   (.blk 0 (.loop pl181_0)))
  (.seq (.reg [4] [] [
     ⟨some 40, .mv (.t 1), none⟩,
     ⟨some 4, .mv (.t 40), none⟩] none)
   (.ret)))

def pf181 : PF := ⟨[.s 4], [], pb181⟩

-- loop.example/g00496/laws.markChunk
def pb185 : PC :=
.seq (.reg [0, 1, 2] [] [
   ⟨some 2, .box 2 (.t 0), none⟩,
   ⟨some 4, .mv (.c (.v false (.int .i64 0))), none⟩] none)
 (.seq (.reg [0, 1] [(8, 1)] [
    ⟨some 5, .fad (.t 2) 1, none⟩,
    ⟨some 6, .ld false 1 (.t 5), none⟩,
    ⟨some 7, .mv (.t 1), none⟩,
    ⟨some 8, .call 194 [0] [(.t 6), (.t 7)], none⟩,
    ⟨some 1, .mv (.t 8), none⟩] none)
  (.seq (.reg [0, 1, 4] [] [
     ⟨some 9, .mv (.t 1), none⟩,
     ⟨some 4, .mv (.t 9), none⟩] none)
   (.ret)))

def pf185 : PF := ⟨[.s 4], [0], pb185⟩

-- loop.example/g00496/laws.markRowS
def pl193_0 : PC :=
.seq (.seq (.reg [0, 1, 5, 9] [] [
         ⟨some 6, .mv (.t 5), none⟩,
         ⟨some 7, .mv (.t 0), none⟩,
         ⟨some 8, .len (.t 7), none⟩,
         ⟨some 9, .bin .lss (.t 6) (.t 8), none⟩] none)
       (.cond (.t 9) (.skip)
        (.exit 0)))
      (.seq (.blk 1 (.seq (.reg [0, 1, 5] [] [
           ⟨some 12, .mv (.t 0), none⟩,
           ⟨some 13, .mv (.t 5), none⟩,
           ⟨some 14, .mv (.t 1), none⟩,
           ⟨some 15, .iad 2 (.t 12) (.t 13), none⟩,
           ⟨some 16, .fad (.t 15) 0, none⟩,
           ⟨none, .st 1 (.t 16) (.t 14), none⟩] none)
         (.seq (.reg [0, 1, 5] [] [
            ⟨some 17, .mv (.t 1), none⟩,
            ⟨some 18, .bin .add (.t 17) (.c (.v false (.int .i64 1))), none⟩,
            ⟨some 1, .mv (.t 18), none⟩] none)
          (.reg [0, 1, 5] [(25, 1)] [
            ⟨some 19, .mv (.t 0), none⟩,
            ⟨some 20, .mv (.t 5), none⟩,
            ⟨some 21, .iad 2 (.t 19) (.t 20), none⟩,
            ⟨some 22, .fad (.t 21) 1, none⟩,
            ⟨some 23, .ld false 1 (.t 22), none⟩,
            ⟨some 24, .mv (.t 1), none⟩,
            ⟨some 25, .call 197 [0] [(.t 23), (.t 24)], none⟩,
            ⟨some 1, .mv (.t 25), none⟩] none))))
       (.reg [0, 1, 5] [] [
         ⟨some 10, .mv (.t 5), none⟩,
         ⟨some 11, .bin .add (.t 10) (.c (.v false (.int .i64 1))), none⟩,
         ⟨some 5, .mv (.t 11), none⟩] none))

def pb193 : PC :=
.seq (.reg [0, 1] [] [
   ⟨some 4, .mv (.c (.v false (.int .i64 0))), none⟩] none)
 (.seq (.seq (.reg [0, 1, 5] [] [
     ⟨some 5, .mv (.c (.v false (.int .i64 0))), none⟩] none)
   (.blk 0 (.loop pl193_0)))
  (.seq (.reg [0, 1, 4] [] [
     ⟨some 26, .mv (.t 1), none⟩,
     ⟨some 4, .mv (.t 26), none⟩] none)
   (.ret)))

def pf193 : PF := ⟨[.s 4], [0], pb193⟩

-- loop.example/g00496/laws.markSlotS
def pl194_0 : PC :=
.seq (.seq (.reg [0, 1, 5, 9] [] [
         ⟨some 6, .mv (.t 5), none⟩,
         ⟨some 7, .mv (.t 0), none⟩,
         ⟨some 8, .len (.t 7), none⟩,
         ⟨some 9, .bin .lss (.t 6) (.t 8), none⟩] none)
       (.cond (.t 9) (.skip)
        (.exit 0)))
      (.seq (.blk 1 (.seq (.reg [0, 1, 5] [] [
           ⟨some 12, .mv (.t 0), none⟩,
           ⟨some 13, .mv (.t 5), none⟩,
           ⟨some 14, .mv (.t 1), none⟩,
           ⟨some 15, .iad 2 (.t 12) (.t 13), none⟩,
           ⟨some 16, .fad (.t 15) 0, none⟩,
           ⟨none, .st 1 (.t 16) (.t 14), none⟩] none)
         (.seq (.reg [0, 1, 5] [] [
            ⟨some 17, .mv (.t 1), none⟩,
            ⟨some 18, .bin .add (.t 17) (.c (.v false (.int .i64 1))), none⟩,
            ⟨some 1, .mv (.t 18), none⟩] none)
          (.reg [0, 1, 5] [(25, 1)] [
            ⟨some 19, .mv (.t 0), none⟩,
            ⟨some 20, .mv (.t 5), none⟩,
            ⟨some 21, .iad 2 (.t 19) (.t 20), none⟩,
            ⟨some 22, .fad (.t 21) 1, none⟩,
            ⟨some 23, .ld false 1 (.t 22), none⟩,
            ⟨some 24, .mv (.t 1), none⟩,
            ⟨some 25, .call 197 [0] [(.t 23), (.t 24)], none⟩,
            ⟨some 1, .mv (.t 25), none⟩] none))))
       (.reg [0, 1, 5] [] [
         ⟨some 10, .mv (.t 5), none⟩,
         ⟨some 11, .bin .add (.t 10) (.c (.v false (.int .i64 1))), none⟩,
         ⟨some 5, .mv (.t 11), none⟩] none))

def pb194 : PC :=
.seq (.reg [0, 1] [] [
   ⟨some 4, .mv (.c (.v false (.int .i64 0))), none⟩] none)
 (.seq (.seq (.reg [0, 1, 5] [] [
     ⟨some 5, .mv (.c (.v false (.int .i64 0))), none⟩] none)
   (.blk 0 (.loop pl194_0)))
  (.seq (.reg [0, 1, 4] [] [
     ⟨some 26, .mv (.t 1), none⟩,
     ⟨some 4, .mv (.t 26), none⟩] none)
   (.ret)))

def pf194 : PF := ⟨[.s 4], [0], pb194⟩

-- loop.example/g00496/laws.markText
def pl196_0 : PC :=
.seq (.seq (.reg [0, 3, 7] [] [
          ⟨some 6, .mv (.t 0), none⟩,
          ⟨some 7, .bin .gtr (.t 6) (.c (.v false (.int .i64 0))), none⟩] none)
        (.cond (.t 7) (.skip)
         (.exit 0)))
       (.blk 1 (.seq (.reg [0, 3] [] [
           ⟨some 8, .mv (.t 0), none⟩,
           ⟨some 9, .bin .rem (.t 8) (.c (.v false (.int .i64 10))), none⟩,
           ⟨some 10, .bin .add (.c (.v false (.int .i64 48))) (.t 9), none⟩,
           ⟨some 11, .cvi .u8 (.t 10), none⟩,
           ⟨some 12, .bsl 1 [.int .u8 0] 1 [(0, (.t 11))], none⟩,
           ⟨some 13, .cvs (.t 12), none⟩,
           ⟨some 14, .mv (.t 3), none⟩,
           ⟨some 15, .bin .add (.t 13) (.t 14), none⟩,
           ⟨some 3, .mv (.t 15), none⟩] none)
         (.reg [0, 3] [] [
           ⟨some 16, .mv (.t 0), none⟩,
           ⟨some 17, .bin .quo (.t 16) (.c (.v false (.int .i64 10))), none⟩,
           ⟨some 0, .mv (.t 17), none⟩] none)))

def pb196 : PC :=
.seq (.reg [0] [] [
   ⟨some 2, .mv (.c (.v false (.str ⟨#[]⟩))), none⟩] none)
 (.seq (.seq (.reg [0, 5] [] [
     ⟨some 4, .mv (.t 0), none⟩,
     ⟨some 5, .bin .leq (.t 4) (.c (.v false (.int .i64 0))), none⟩] none)
   (.cond (.t 5) (.seq (.reg [2] [] [
       ⟨some 2, .mv (.c (.v false (.str ⟨#[109, 48]⟩))), none⟩] none)
     (.ret))
    (.skip)))
  (.seq (.reg [0, 3] [] [
     ⟨some 3, .mv (.c (.v false (.str ⟨#[]⟩))), none⟩] none)
   (.seq (.blk 0 (.loop pl196_0))
    (.seq (.reg [2] [] [
       ⟨some 18, .mv (.t 3), none⟩,
       ⟨some 19, .bin .add (.c (.v false (.str ⟨#[109]⟩))) (.t 18), none⟩,
       ⟨some 2, .mv (.t 19), none⟩] none)
     (.ret)))))

def pf196 : PF := ⟨[.s 2], [], pb196⟩

-- loop.example/g00496/laws.markValS
def pl197_0 : PC :=
.seq (.seq (.reg [0, 1, 5, 9] [] [
         ⟨some 6, .mv (.t 5), none⟩,
         ⟨some 7, .mv (.t 0), none⟩,
         ⟨some 8, .len (.t 7), none⟩,
         ⟨some 9, .bin .lss (.t 6) (.t 8), none⟩] none)
       (.cond (.t 9) (.skip)
        (.exit 0)))
      (.seq (.blk 1 (.seq (.reg [0, 1, 5] [] [
           ⟨some 12, .mv (.t 0), none⟩,
           ⟨some 13, .mv (.t 5), none⟩,
           ⟨some 14, .mv (.t 1), none⟩,
           ⟨some 15, .iad 3 (.t 12) (.t 13), none⟩,
           ⟨some 16, .fad (.t 15) 0, none⟩,
           ⟨none, .st 1 (.t 16) (.t 14), none⟩] none)
         (.seq (.reg [0, 1, 5] [] [
            ⟨some 17, .mv (.t 1), none⟩,
            ⟨some 18, .bin .add (.t 17) (.c (.v false (.int .i64 1))), none⟩,
            ⟨some 1, .mv (.t 18), none⟩] none)
          (.seq (.reg [0, 1, 5] [] [
             ⟨some 19, .mv (.t 0), none⟩,
             ⟨some 20, .mv (.t 5), none⟩,
             ⟨some 21, .mv (.t 1), none⟩,
             ⟨some 22, .iad 3 (.t 19) (.t 20), none⟩,
             ⟨some 23, .fad (.t 22) 1, none⟩,
             ⟨none, .st 1 (.t 23) (.t 21), none⟩] none)
           (.seq (.reg [0, 1, 5] [] [
              ⟨some 24, .mv (.t 1), none⟩,
              ⟨some 25, .bin .add (.t 24) (.c (.v false (.int .i64 1))), none⟩,
              ⟨some 1, .mv (.t 25), none⟩] none)
            (.seq (.reg [0, 1, 5] [] [
               ⟨some 26, .mv (.t 0), none⟩,
               ⟨some 27, .mv (.t 5), none⟩,
               ⟨some 28, .mv (.t 1), none⟩,
               ⟨some 29, .call 196 [] [(.t 28)], none⟩,
               ⟨some 30, .iad 3 (.t 26) (.t 27), none⟩,
               ⟨some 31, .fad (.t 30) 2, none⟩,
               ⟨none, .st 1 (.t 31) (.t 29), none⟩] none)
             (.reg [0, 1, 5] [] [
               ⟨some 32, .mv (.t 1), none⟩,
               ⟨some 33, .bin .add (.t 32) (.c (.v false (.int .i64 1))), none⟩,
               ⟨some 1, .mv (.t 33), none⟩] none)))))))
       (.reg [0, 1, 5] [] [
         ⟨some 10, .mv (.t 5), none⟩,
         ⟨some 11, .bin .add (.t 10) (.c (.v false (.int .i64 1))), none⟩,
         ⟨some 5, .mv (.t 11), none⟩] none))

def pb197 : PC :=
.seq (.reg [0, 1] [] [
   ⟨some 4, .mv (.c (.v false (.int .i64 0))), none⟩] none)
 (.seq (.seq (.reg [0, 1, 5] [] [
     ⟨some 5, .mv (.c (.v false (.int .i64 0))), none⟩] none)
   (.blk 0 (.loop pl197_0)))
  (.seq (.reg [0, 4] [] [
     ⟨some 34, .mv (.t 1), none⟩,
     ⟨some 4, .mv (.t 34), none⟩] none)
   (.ret)))

def pf197 : PF := ⟨[.s 4], [0], pb197⟩

-- loop.example/g00496/laws.szChunk
def pb213 : PC :=
.seq (.reg [1, 2] [] [
   ⟨some 2, .box 2 (.t 0), none⟩,
   ⟨some 4, .mv (.c (.v false (.int .i64 0))), none⟩] none)
 (.seq (.reg [1] [(8, 1)] [
    ⟨some 5, .fad (.t 2) 1, none⟩,
    ⟨some 6, .ld false 1 (.t 5), none⟩,
    ⟨some 7, .mv (.t 1), none⟩,
    ⟨some 8, .call 228 [] [(.t 6), (.t 7)], none⟩,
    ⟨some 1, .mv (.t 8), none⟩] none)
  (.seq (.seq (.reg [1, 10] [] [
      ⟨some 9, .mv (.t 1), none⟩,
      ⟨some 10, .bin .lss (.t 9) (.c (.v false (.int .i64 0))), none⟩] none)
    (.cond (.t 10) (.seq (.reg [4] [] [
        ⟨some 4, .mv (.c (.v false (.int .i64 (-1)))), none⟩] none)
      (.ret))
     (.skip)))
   (.seq (.reg [1, 4] [] [
      ⟨some 11, .mv (.t 1), none⟩,
      ⟨some 4, .mv (.t 11), none⟩] none)
    (.ret))))

def pf213 : PF := ⟨[.s 4], [], pb213⟩

-- loop.example/g00496/laws.szSlot
def pb227 : PC :=
.seq (.reg [1, 2] [] [
   ⟨some 2, .box 2 (.t 0), none⟩,
   ⟨some 4, .mv (.c (.v false (.int .i64 0))), none⟩] none)
 (.seq (.reg [1] [(8, 1)] [
    ⟨some 5, .fad (.t 2) 1, none⟩,
    ⟨some 6, .ld false 1 (.t 5), none⟩,
    ⟨some 7, .mv (.t 1), none⟩,
    ⟨some 8, .call 232 [] [(.t 6), (.t 7)], none⟩,
    ⟨some 1, .mv (.t 8), none⟩] none)
  (.seq (.seq (.reg [1, 10] [] [
      ⟨some 9, .mv (.t 1), none⟩,
      ⟨some 10, .bin .lss (.t 9) (.c (.v false (.int .i64 0))), none⟩] none)
    (.cond (.t 10) (.seq (.reg [4] [] [
        ⟨some 4, .mv (.c (.v false (.int .i64 (-1)))), none⟩] none)
      (.ret))
     (.skip)))
   (.seq (.reg [1, 4] [] [
      ⟨some 11, .mv (.t 1), none⟩,
      ⟨some 4, .mv (.t 11), none⟩] none)
    (.ret))))

def pf227 : PF := ⟨[.s 4], [], pb227⟩

-- loop.example/g00496/laws.szSlotS
def pl228_0 : PC :=
.seq (.seq (.reg [0, 1, 5, 15] [] [
           ⟨some 12, .mv (.t 5), none⟩,
           ⟨some 13, .mv (.t 0), none⟩,
           ⟨some 14, .len (.t 13), none⟩,
           ⟨some 15, .bin .lss (.t 12) (.t 14), none⟩] none)
         (.cond (.t 15) (.skip)
          (.exit 0)))
        (.seq (.blk 1 (.seq (.reg [0, 1, 5] [(23, 1)] [
             ⟨some 18, .mv (.t 0), none⟩,
             ⟨some 19, .mv (.t 5), none⟩,
             ⟨some 20, .iad 2 (.t 18) (.t 19), none⟩,
             ⟨some 21, .ld true 2 (.t 20), none⟩,
             ⟨some 22, .mv (.t 1), none⟩,
             ⟨some 23, .call 227 [] [(.t 21), (.t 22)], none⟩,
             ⟨some 1, .mv (.t 23), none⟩] none)
           (.seq (.reg [0, 1, 5, 25] [] [
              ⟨some 24, .mv (.t 1), none⟩,
              ⟨some 25, .bin .lss (.t 24) (.c (.v false (.int .i64 0))), none⟩] none)
            (.cond (.t 25) (.seq (.reg [4] [] [
                ⟨some 4, .mv (.c (.v false (.int .i64 (-1)))), none⟩] none)
              (.ret))
             (.skip)))))
         (.reg [0, 1, 5] [] [
           ⟨some 16, .mv (.t 5), none⟩,
           ⟨some 17, .bin .add (.t 16) (.c (.v false (.int .i64 1))), none⟩,
           ⟨some 5, .mv (.t 17), none⟩] none))

def pb228 : PC :=
.seq (.reg [0, 1] [] [
   ⟨some 4, .mv (.c (.v false (.int .i64 0))), none⟩] none)
 (.seq (.reg [0, 1] [] [
    ⟨some 6, .mv (.t 1), none⟩,
    ⟨some 7, .mv (.t 0), none⟩,
    ⟨some 8, .len (.t 7), none⟩,
    ⟨some 9, .bin .sub (.t 6) (.t 8), none⟩,
    ⟨some 1, .mv (.t 9), none⟩] none)
  (.seq (.seq (.reg [0, 1, 11] [] [
      ⟨some 10, .mv (.t 1), none⟩,
      ⟨some 11, .bin .lss (.t 10) (.c (.v false (.int .i64 0))), none⟩] none)
    (.cond (.t 11) (.seq (.reg [4] [] [
        ⟨some 4, .mv (.c (.v false (.int .i64 (-1)))), none⟩] none)
      (.ret))
     (.skip)))
   (.seq (.seq (.reg [0, 1, 5] [] [
       ⟨some 5, .mv (.c (.v false (.int .i64 0))), none⟩] none)
     (.blk 0 (.loop pl228_0)))
    (.seq (.reg [1, 4] [] [
       ⟨some 26, .mv (.t 1), none⟩,
       ⟨some 4, .mv (.t 26), none⟩] none)
     (.ret)))))

def pf228 : PF := ⟨[.s 4], [], pb228⟩

-- loop.example/g00496/laws.szVal
def pb231 : PC :=
.seq (.reg [1, 2] [] [
   ⟨some 2, .box 3 (.t 0), none⟩,
   ⟨some 4, .mv (.c (.v false (.int .i64 0))), none⟩] none)
 (.seq (.reg [1] [] [
    ⟨some 5, .mv (.t 1), none⟩,
    ⟨some 6, .fad (.t 2) 2, none⟩,
    ⟨some 7, .ld false 1 (.t 6), none⟩,
    ⟨some 8, .lens (.t 7), none⟩,
    ⟨some 9, .bin .sub (.t 5) (.t 8), none⟩,
    ⟨some 1, .mv (.t 9), none⟩] none)
  (.seq (.seq (.reg [1, 11] [] [
      ⟨some 10, .mv (.t 1), none⟩,
      ⟨some 11, .bin .lss (.t 10) (.c (.v false (.int .i64 0))), none⟩] none)
    (.cond (.t 11) (.seq (.reg [4] [] [
        ⟨some 4, .mv (.c (.v false (.int .i64 (-1)))), none⟩] none)
      (.ret))
     (.skip)))
   (.seq (.reg [4] [] [
      ⟨some 12, .mv (.t 1), none⟩,
      ⟨some 4, .mv (.t 12), none⟩] none)
    (.ret))))

def pf231 : PF := ⟨[.s 4], [], pb231⟩

-- loop.example/g00496/laws.szValS
def pl232_0 : PC :=
.seq (.seq (.reg [0, 1, 5, 15] [] [
           ⟨some 12, .mv (.t 5), none⟩,
           ⟨some 13, .mv (.t 0), none⟩,
           ⟨some 14, .len (.t 13), none⟩,
           ⟨some 15, .bin .lss (.t 12) (.t 14), none⟩] none)
         (.cond (.t 15) (.skip)
          (.exit 0)))
        (.seq (.blk 1 (.seq (.reg [0, 1, 5] [(23, 1)] [
             ⟨some 18, .mv (.t 0), none⟩,
             ⟨some 19, .mv (.t 5), none⟩,
             ⟨some 20, .iad 3 (.t 18) (.t 19), none⟩,
             ⟨some 21, .ld true 3 (.t 20), none⟩,
             ⟨some 22, .mv (.t 1), none⟩,
             ⟨some 23, .call 231 [] [(.t 21), (.t 22)], none⟩,
             ⟨some 1, .mv (.t 23), none⟩] none)
           (.seq (.reg [0, 1, 5, 25] [] [
              ⟨some 24, .mv (.t 1), none⟩,
              ⟨some 25, .bin .lss (.t 24) (.c (.v false (.int .i64 0))), none⟩] none)
            (.cond (.t 25) (.seq (.reg [4] [] [
                ⟨some 4, .mv (.c (.v false (.int .i64 (-1)))), none⟩] none)
              (.ret))
             (.skip)))))
         (.reg [0, 1, 5] [] [
           ⟨some 16, .mv (.t 5), none⟩,
           ⟨some 17, .bin .add (.t 16) (.c (.v false (.int .i64 1))), none⟩,
           ⟨some 5, .mv (.t 17), none⟩] none))

def pb232 : PC :=
.seq (.reg [0, 1] [] [
   ⟨some 4, .mv (.c (.v false (.int .i64 0))), none⟩] none)
 (.seq (.reg [0, 1] [] [
    ⟨some 6, .mv (.t 1), none⟩,
    ⟨some 7, .mv (.t 0), none⟩,
    ⟨some 8, .len (.t 7), none⟩,
    ⟨some 9, .bin .sub (.t 6) (.t 8), none⟩,
    ⟨some 1, .mv (.t 9), none⟩] none)
  (.seq (.seq (.reg [0, 1, 11] [] [
      ⟨some 10, .mv (.t 1), none⟩,
      ⟨some 11, .bin .lss (.t 10) (.c (.v false (.int .i64 0))), none⟩] none)
    (.cond (.t 11) (.seq (.reg [4] [] [
        ⟨some 4, .mv (.c (.v false (.int .i64 (-1)))), none⟩] none)
      (.ret))
     (.skip)))
   (.seq (.seq (.reg [0, 1, 5] [] [
       ⟨some 5, .mv (.c (.v false (.int .i64 0))), none⟩] none)
     (.blk 0 (.loop pl232_0)))
    (.seq (.reg [1, 4] [] [
       ⟨some 26, .mv (.t 1), none⟩,
       ⟨some 4, .mv (.t 26), none⟩] none)
     (.ret)))))

def pf232 : PF := ⟨[.s 4], [], pb232⟩

-- loop.example/g00496/laws.toChunk
def pb237 : PC :=
.seq (.reg [1, 2] [] [
   ⟨some 1, .box 2 (.t 0), none⟩,
   ⟨some 2, .alloc [(.v false (.int .i64 0)), (.nl 2)], none⟩] none)
 (.seq (.reg [1, 2, 3] [] [
    ⟨some 3, .alloc [(.v false (.int .i64 0)), (.nl 2)], none⟩] none)
  (.seq (.reg [1, 2, 3] [] [
     ⟨some 4, .fad (.t 1) 0, none⟩,
     ⟨some 5, .ld false 1 (.t 4), none⟩,
     ⟨some 6, .fad (.t 3) 0, none⟩,
     ⟨none, .st 1 (.t 6) (.t 5), none⟩] none)
   (.seq (.reg [2, 3] [] [
      ⟨some 7, .fad (.t 1) 1, none⟩,
      ⟨some 8, .ld false 1 (.t 7), none⟩,
      ⟨some 9, .call 254 [] [(.t 8)], none⟩,
      ⟨some 10, .fad (.t 3) 1, none⟩,
      ⟨none, .st 1 (.t 10) (.t 9), none⟩] none)
    (.seq (.reg [2] [] [
       ⟨some 11, .ld true 2 (.t 3), none⟩,
       ⟨none, .st 2 (.t 2) (.t 11), none⟩] none)
     (.ret)))))

def pf237 : PF := ⟨[.b 2 2 true], [], pb237⟩

-- loop.example/g00496/laws.toSlot
def pb253 : PC :=
.seq (.reg [1, 2] [] [
   ⟨some 1, .box 2 (.t 0), none⟩,
   ⟨some 2, .alloc [(.v false (.int .i64 0)), (.nl 3)], none⟩] none)
 (.seq (.reg [1, 2, 3] [] [
    ⟨some 3, .alloc [(.v false (.int .i64 0)), (.nl 3)], none⟩] none)
  (.seq (.reg [1, 2, 3] [] [
     ⟨some 4, .fad (.t 1) 0, none⟩,
     ⟨some 5, .ld false 1 (.t 4), none⟩,
     ⟨some 6, .fad (.t 3) 0, none⟩,
     ⟨none, .st 1 (.t 6) (.t 5), none⟩] none)
   (.seq (.reg [2, 3] [] [
      ⟨some 7, .fad (.t 1) 1, none⟩,
      ⟨some 8, .ld false 1 (.t 7), none⟩,
      ⟨some 9, .call 258 [] [(.t 8)], none⟩,
      ⟨some 10, .fad (.t 3) 1, none⟩,
      ⟨none, .st 1 (.t 10) (.t 9), none⟩] none)
    (.seq (.reg [2] [] [
       ⟨some 11, .ld true 2 (.t 3), none⟩,
       ⟨none, .st 2 (.t 2) (.t 11), none⟩] none)
     (.ret)))))

def pf253 : PF := ⟨[.b 2 2 true], [], pb253⟩

-- loop.example/g00496/laws.toSlotS
def pl254_0 : PC :=
.seq (.seq (.reg [0, 3, 4, 11] [] [
          ⟨some 8, .mv (.t 4), none⟩,
          ⟨some 9, .mv (.t 0), none⟩,
          ⟨some 10, .len (.t 9), none⟩,
          ⟨some 11, .bin .lss (.t 8) (.t 10), none⟩] none)
        (.cond (.t 11) (.skip)
         (.exit 0)))
       (.seq (.blk 1 (.reg [0, 3, 4] [] [
           ⟨some 14, .mv (.t 3), none⟩,
           ⟨some 15, .mv (.t 4), none⟩,
           ⟨some 16, .mv (.t 0), none⟩,
           ⟨some 17, .mv (.t 4), none⟩,
           ⟨some 18, .iad 2 (.t 16) (.t 17), none⟩,
           ⟨some 19, .ld true 2 (.t 18), none⟩,
           ⟨some 20, .call 253 [] [(.t 19)], none⟩,
           ⟨some 21, .iad 2 (.t 14) (.t 15), none⟩,
           ⟨none, .st 2 (.t 21) (.t 20), none⟩] none))
        (.reg [0, 3, 4] [] [
          ⟨some 12, .mv (.t 4), none⟩,
          ⟨some 13, .bin .add (.t 12) (.c (.v false (.int .i64 1))), none⟩,
          ⟨some 4, .mv (.t 13), none⟩] none))

def pb254 : PC :=
.seq (.reg [0] [] [
   ⟨some 2, .mv (.c (.nl 2)), none⟩] none)
 (.seq (.reg [0, 3] [(7, 3)] [
    ⟨some 5, .mv (.t 0), none⟩,
    ⟨some 6, .len (.t 5), none⟩,
    ⟨some 7, .mks 2 32 [.int .i64 0, .sl 3 []] (.t 6), none⟩,
    ⟨some 3, .mv (.t 7), none⟩] none)
  (.seq (.seq (.reg [0, 3, 4] [] [
      ⟨some 4, .mv (.c (.v false (.int .i64 0))), none⟩] none)
    (.blk 0 (.loop pl254_0)))
   (.seq (.reg [2, 3] [] [
      ⟨some 22, .mv (.t 3), none⟩,
      ⟨some 2, .mv (.t 22), none⟩] none)
    (.ret))))

def pf254 : PF := ⟨[.s 2], [], pb254⟩

-- loop.example/g00496/laws.toVal
def pb257 : PC :=
.seq (.reg [1, 2] [] [
   ⟨some 1, .box 3 (.t 0), none⟩,
   ⟨some 2, .alloc [(.v false (.int .i64 0)), (.v false (.int .i64 0)), (.v false (.str ⟨#[]⟩))], none⟩] none)
 (.seq (.reg [1, 2, 3] [] [
    ⟨some 3, .alloc [(.v false (.int .i64 0)), (.v false (.int .i64 0)), (.v false (.str ⟨#[]⟩))], none⟩] none)
  (.seq (.reg [1, 2, 3] [] [
     ⟨some 4, .fad (.t 1) 0, none⟩,
     ⟨some 5, .ld false 1 (.t 4), none⟩,
     ⟨some 6, .fad (.t 3) 0, none⟩,
     ⟨none, .st 1 (.t 6) (.t 5), none⟩] none)
   (.seq (.reg [1, 2, 3] [] [
      ⟨some 7, .fad (.t 1) 1, none⟩,
      ⟨some 8, .ld false 1 (.t 7), none⟩,
      ⟨some 9, .fad (.t 3) 1, none⟩,
      ⟨none, .st 1 (.t 9) (.t 8), none⟩] none)
    (.seq (.reg [2, 3] [] [
       ⟨some 10, .fad (.t 1) 2, none⟩,
       ⟨some 11, .ld false 1 (.t 10), none⟩,
       ⟨some 12, .fad (.t 3) 2, none⟩,
       ⟨none, .st 1 (.t 12) (.t 11), none⟩] none)
     (.seq (.reg [2] [] [
        ⟨some 13, .ld true 3 (.t 3), none⟩,
        ⟨none, .st 3 (.t 2) (.t 13), none⟩] none)
      (.ret))))))

def pf257 : PF := ⟨[.b 2 3 true], [], pb257⟩

-- loop.example/g00496/laws.toValS
def pl258_0 : PC :=
.seq (.seq (.reg [0, 3, 4, 11] [] [
          ⟨some 8, .mv (.t 4), none⟩,
          ⟨some 9, .mv (.t 0), none⟩,
          ⟨some 10, .len (.t 9), none⟩,
          ⟨some 11, .bin .lss (.t 8) (.t 10), none⟩] none)
        (.cond (.t 11) (.skip)
         (.exit 0)))
       (.seq (.blk 1 (.reg [0, 3, 4] [] [
           ⟨some 14, .mv (.t 3), none⟩,
           ⟨some 15, .mv (.t 4), none⟩,
           ⟨some 16, .mv (.t 0), none⟩,
           ⟨some 17, .mv (.t 4), none⟩,
           ⟨some 18, .iad 3 (.t 16) (.t 17), none⟩,
           ⟨some 19, .ld true 3 (.t 18), none⟩,
           ⟨some 20, .call 257 [] [(.t 19)], none⟩,
           ⟨some 21, .iad 3 (.t 14) (.t 15), none⟩,
           ⟨none, .st 3 (.t 21) (.t 20), none⟩] none))
        (.reg [0, 3, 4] [] [
          ⟨some 12, .mv (.t 4), none⟩,
          ⟨some 13, .bin .add (.t 12) (.c (.v false (.int .i64 1))), none⟩,
          ⟨some 4, .mv (.t 13), none⟩] none))

def pb258 : PC :=
.seq (.reg [0] [] [
   ⟨some 2, .mv (.c (.nl 3)), none⟩] none)
 (.seq (.reg [0, 3] [(7, 3)] [
    ⟨some 5, .mv (.t 0), none⟩,
    ⟨some 6, .len (.t 5), none⟩,
    ⟨some 7, .mks 3 32 [.int .i64 0, .int .i64 0, .str ⟨#[]⟩] (.t 6), none⟩,
    ⟨some 3, .mv (.t 7), none⟩] none)
  (.seq (.seq (.reg [0, 3, 4] [] [
      ⟨some 4, .mv (.c (.v false (.int .i64 0))), none⟩] none)
    (.blk 0 (.loop pl258_0)))
   (.seq (.reg [2, 3] [] [
      ⟨some 22, .mv (.t 3), none⟩,
      ⟨some 2, .mv (.t 22), none⟩] none)
    (.ret))))

def pf258 : PF := ⟨[.s 2], [], pb258⟩

-- loop.example/g00496/spec.Came
def pb263 : PC :=
.seq (.reg [0, 1] [] [
   ⟨some 4, .mv (.c (.v false (.bool false))), none⟩] none)
 (.seq (.reg [4] [(7, 4)] [
    ⟨some 5, .mv (.t 0), none⟩,
    ⟨some 6, .mv (.t 1), none⟩,
    ⟨some 7, .call 377 [] [(.t 5), (.c (.v false (.int .i64 1))), (.t 6)], none⟩,
    ⟨some 4, .mv (.t 7), none⟩] none)
  (.ret))

def pf263 : PF := ⟨[.s 4], [], pb263⟩

-- loop.example/g00496/spec.RowsOf
def pl325_0 : PC :=
.seq (.seq (.reg [1, 2, 3, 7, 8, 14] [] [
          ⟨some 10, .mv (.t 8), none⟩,
          ⟨some 11, .fad (.t 3) 1, none⟩,
          ⟨some 12, .ld false 1 (.t 11), none⟩,
          ⟨some 13, .len (.t 12), none⟩,
          ⟨some 14, .bin .lss (.t 10) (.t 13), none⟩] none)
        (.cond (.t 14) (.skip)
         (.exit 0)))
       (.seq (.blk 1 (.seq (.reg [1, 2, 3, 7, 8, 24] [] [
            ⟨some 17, .fad (.t 3) 1, none⟩,
            ⟨some 18, .ld false 1 (.t 17), none⟩,
            ⟨some 19, .mv (.t 8), none⟩,
            ⟨some 20, .iad 2 (.t 18) (.t 19), none⟩,
            ⟨some 21, .fad (.t 20) 0, none⟩,
            ⟨some 22, .ld false 1 (.t 21), none⟩,
            ⟨some 23, .mv (.t 2), none⟩,
            ⟨some 24, .call 263 [] [(.t 22), (.t 23)], none⟩] none)
          (.cond (.t 24) (.reg [1, 2, 3, 7, 8] [(39, 7)] [
             ⟨some 25, .mv (.t 7), none⟩,
             ⟨some 26, .mv (.t 1), none⟩,
             ⟨some 27, .mv (.t 8), none⟩,
             ⟨some 28, .bin .add (.t 26) (.t 27), none⟩,
             ⟨some 29, .bsl 3 [] 0 [], none⟩,
             ⟨some 30, .fad (.t 3) 1, none⟩,
             ⟨some 31, .ld false 1 (.t 30), none⟩,
             ⟨some 32, .mv (.t 8), none⟩,
             ⟨some 33, .iad 2 (.t 31) (.t 32), none⟩,
             ⟨some 34, .fad (.t 33) 1, none⟩,
             ⟨some 35, .ld false 1 (.t 34), none⟩,
             ⟨some 36, .app 3 32 (.t 29) (.t 35), none⟩,
             ⟨some 37, .build [(.v false (.int .i64 0)), (.nl 3)] [(0, 1, (.t 28)), (1, 1, (.t 36))], none⟩,
             ⟨some 38, .bsl 2 [.int .i64 0, .sl 3 []] 1 [(0, (.t 37))], none⟩,
             ⟨some 39, .app 2 32 (.t 25) (.t 38), none⟩,
             ⟨some 7, .mv (.t 39), none⟩] none)
           (.skip))))
        (.reg [1, 2, 3, 7, 8] [] [
          ⟨some 15, .mv (.t 8), none⟩,
          ⟨some 16, .bin .add (.t 15) (.c (.v false (.int .i64 1))), none⟩,
          ⟨some 8, .mv (.t 16), none⟩] none))

def pb325 : PC :=
.seq (.reg [1, 2, 3] [] [
   ⟨some 3, .box 2 (.t 0), none⟩,
   ⟨some 6, .mv (.c (.nl 2)), none⟩] none)
 (.seq (.reg [1, 2, 3, 7] [(9, 7)] [
    ⟨some 9, .bsl 2 [] 0 [], none⟩,
    ⟨some 7, .mv (.t 9), none⟩] none)
  (.seq (.seq (.reg [1, 2, 3, 7, 8] [] [
      ⟨some 8, .mv (.c (.v false (.int .i64 0))), none⟩] none)
    (.blk 0 (.loop pl325_0)))
   (.seq (.reg [6, 7] [] [
      ⟨some 40, .mv (.t 7), none⟩,
      ⟨some 6, .mv (.t 40), none⟩] none)
    (.ret))))

def pf325 : PF := ⟨[.s 6], [], pb325⟩

-- loop.example/g00496/spec.l1In
def pb377 : PC :=
.seq (.reg [0, 1, 2] [] [
   ⟨some 6, .mv (.c (.v false (.bool false))), none⟩] none)
 (.seq (.reg [6] [] [
    ⟨some 7, .mv (.t 0), none⟩,
    ⟨some 8, .mv (.t 1), none⟩,
    ⟨some 9, .bin .geq (.t 7) (.t 8), none⟩,
    ⟨some 10, .mv (.t 9), none⟩,
    ⟨some 11, .mv (.t 0), some (10, true)⟩,
    ⟨some 12, .mv (.t 2), some (10, true)⟩,
    ⟨some 13, .bin .leq (.t 11) (.t 12), some (10, true)⟩,
    ⟨some 14, .pick (.t 10) (.t 13) (.c (.v false (.bool false))), none⟩,
    ⟨some 6, .mv (.t 14), none⟩] none)
  (.ret))

def pf377 : PF := ⟨[.s 6], [], pb377⟩

end Go.Proofs.Ytloninhfmfggaaa.OM
