/- The texts of the functions, as the own machine runs them. -/
import Derived.Test.YtkgibccknlbiaaaOMDef
set_option linter.all false
namespace Go.Proofs.Ytkgibccknlbiaaa.OM
set_option maxRecDepth 100000

-- loop.example/g00496/impl.HasDead
def pl23_0 : PC :=
.seq (.reg [1, 7, 8, 9, 10] [] [
        ⟨some 10, .bin .lss (.t 9) (.t 8), none⟩] none)
      (.seq (.cond (.t 10) (.skip)
        (.exit 0))
       (.seq (.blk 1 (.seq (.reg [1, 6, 7, 8, 9] [] [
            ⟨some 11, .iad 3 (.t 7) (.t 9), none⟩,
            ⟨some 12, .ld true 3 (.t 11), none⟩,
            ⟨some 6, .alloc [(.v false (.int .i64 0)), (.v false (.int .i64 0)), (.v false (.int .i64 0))], none⟩,
            ⟨none, .st 3 (.t 6) (.t 12), none⟩] none)
          (.seq (.reg [1, 7, 8, 9, 16] [] [
             ⟨some 13, .fad (.t 6) 0, none⟩,
             ⟨some 14, .ld false 1 (.t 13), none⟩,
             ⟨some 15, .mv (.t 1), none⟩,
             ⟨some 16, .bin .eql (.t 14) (.t 15), none⟩] none)
           (.cond (.t 16) (.seq (.reg [4] [] [
               ⟨some 4, .mv (.c (.v false (.bool true))), none⟩] none)
             (.ret))
            (.skip)))))
        (.reg [1, 7, 8, 9] [] [
          ⟨some 17, .bin .add (.t 9) (.c (.v false (.int .i64 1))), none⟩,
          ⟨some 9, .mv (.t 17), none⟩] none)))

def pb23 : PC :=
.seq (.reg [0, 1] [] [
   ⟨some 4, .mv (.c (.v false (.bool false))), none⟩] none)
 (.seq (.seq (.reg [1, 7, 8, 9] [] [
     ⟨some 7, .mv (.t 0), none⟩,
     ⟨some 8, .len (.t 7), none⟩,
     ⟨some 9, .mv (.c (.v false (.int .i64 0))), none⟩] none)
   (.blk 0 (.loop pl23_0)))
  (.seq (.reg [4] [] [
     ⟨some 4, .mv (.c (.v false (.bool false))), none⟩] none)
   (.ret)))

def pf23 : PF := ⟨[.s 4], [], pb23⟩

-- loop.example/g00496/impl.MayAdvance
def pl31_0 : PC :=
.seq (.reg [1, 7, 8, 9, 10] [] [
        ⟨some 10, .bin .lss (.t 9) (.t 8), none⟩] none)
      (.seq (.cond (.t 10) (.skip)
        (.exit 0))
       (.seq (.blk 1 (.seq (.reg [1, 6, 7, 8, 9] [] [
            ⟨some 11, .iad 1 (.t 7) (.t 9), none⟩,
            ⟨some 12, .ld false 1 (.t 11), none⟩,
            ⟨some 6, .mv (.t 12), none⟩] none)
          (.seq (.reg [1, 7, 8, 9, 19] [] [
             ⟨some 13, .mv (.t 6), none⟩,
             ⟨some 14, .bin .neq (.t 13) (.c (.v false (.int .i64 (-1)))), none⟩,
             ⟨some 15, .mv (.t 14), none⟩,
             ⟨some 16, .mv (.t 6), some (15, true)⟩,
             ⟨some 17, .mv (.t 1), some (15, true)⟩,
             ⟨some 18, .bin .neq (.t 16) (.t 17), some (15, true)⟩,
             ⟨some 19, .pick (.t 15) (.t 18) (.c (.v false (.bool false))), none⟩] none)
           (.cond (.t 19) (.seq (.reg [4] [] [
               ⟨some 4, .mv (.c (.v false (.bool false))), none⟩] none)
             (.ret))
            (.skip)))))
        (.reg [1, 7, 8, 9] [] [
          ⟨some 20, .bin .add (.t 9) (.c (.v false (.int .i64 1))), none⟩,
          ⟨some 9, .mv (.t 20), none⟩] none)))

def pb31 : PC :=
.seq (.reg [0, 1] [] [
   ⟨some 4, .mv (.c (.v false (.bool false))), none⟩] none)
 (.seq (.seq (.reg [1, 7, 8, 9] [] [
     ⟨some 7, .mv (.t 0), none⟩,
     ⟨some 8, .len (.t 7), none⟩,
     ⟨some 9, .mv (.c (.v false (.int .i64 0))), none⟩] none)
   (.blk 0 (.loop pl31_0)))
  (.seq (.reg [4] [] [
     ⟨some 4, .mv (.c (.v false (.bool true))), none⟩] none)
   (.ret)))

def pf31 : PF := ⟨[.s 4], [], pb31⟩

-- loop.example/g00496/impl.OldestPin
def pl33_0 : PC :=
.seq (.reg [1, 5, 8, 9, 10, 11] [] [
         ⟨some 11, .bin .lss (.t 10) (.t 9), none⟩] none)
       (.seq (.cond (.t 11) (.skip)
         (.exit 0))
        (.seq (.blk 1 (.seq (.reg [1, 5, 7, 8, 9, 10] [] [
             ⟨some 12, .iad 1 (.t 8) (.t 10), none⟩,
             ⟨some 13, .ld false 1 (.t 12), none⟩,
             ⟨some 7, .mv (.t 13), none⟩] none)
           (.seq (.reg [1, 5, 7, 8, 9, 10, 24] [] [
              ⟨some 14, .mv (.t 7), none⟩,
              ⟨some 15, .bin .geq (.t 14) (.c (.v false (.int .i64 0))), none⟩,
              ⟨some 16, .mv (.t 15), none⟩,
              ⟨some 17, .mv (.t 5), some (16, true)⟩,
              ⟨some 18, .bin .lss (.t 17) (.c (.v false (.int .i64 0))), some (16, true)⟩,
              ⟨some 19, .mv (.t 18), some (16, true)⟩,
              ⟨some 20, .mv (.t 7), some (19, false)⟩,
              ⟨some 21, .mv (.t 5), some (19, false)⟩,
              ⟨some 22, .bin .lss (.t 20) (.t 21), some (19, false)⟩,
              ⟨some 23, .pick (.t 19) (.c (.v false (.bool true))) (.t 22), some (16, true)⟩,
              ⟨some 24, .pick (.t 16) (.t 23) (.c (.v false (.bool false))), none⟩] none)
            (.cond (.t 24) (.reg [1, 5, 8, 9, 10] [] [
               ⟨some 25, .mv (.t 7), none⟩,
               ⟨some 5, .mv (.t 25), none⟩] none)
             (.skip)))))
         (.reg [1, 5, 8, 9, 10] [] [
           ⟨some 26, .bin .add (.t 10) (.c (.v false (.int .i64 1))), none⟩,
           ⟨some 10, .mv (.t 26), none⟩] none)))

def pb33 : PC :=
.seq (.reg [0, 1] [] [
   ⟨some 4, .mv (.c (.v false (.int .i64 0))), none⟩] none)
 (.seq (.reg [0, 1, 5] [] [
    ⟨some 5, .mv (.c (.v false (.int .i64 (-1)))), none⟩] none)
  (.seq (.seq (.reg [1, 5, 8, 9, 10] [] [
      ⟨some 8, .mv (.t 0), none⟩,
      ⟨some 9, .len (.t 8), none⟩,
      ⟨some 10, .mv (.c (.v false (.int .i64 0))), none⟩] none)
    (.blk 0 (.loop pl33_0)))
   (.seq (.seq (.reg [1, 5, 28] [] [
       ⟨some 27, .mv (.t 5), none⟩,
       ⟨some 28, .bin .lss (.t 27) (.c (.v false (.int .i64 0))), none⟩] none)
     (.cond (.t 28) (.seq (.reg [4] [] [
         ⟨some 29, .mv (.t 1), none⟩,
         ⟨some 4, .mv (.t 29), none⟩] none)
       (.ret))
      (.skip)))
    (.seq (.reg [4] [] [
       ⟨some 30, .mv (.t 5), none⟩,
       ⟨some 4, .mv (.t 30), none⟩] none)
     (.ret)))))

def pf33 : PF := ⟨[.s 4], [], pb33⟩

-- loop.example/g00496/impl.PinsOk
def pl38_0 : PC :=
.seq (.reg [1, 7, 8, 9, 10] [] [
        ⟨some 10, .bin .lss (.t 9) (.t 8), none⟩] none)
      (.seq (.cond (.t 10) (.skip)
        (.exit 0))
       (.seq (.blk 1 (.seq (.reg [1, 6, 7, 8, 9] [] [
            ⟨some 11, .iad 1 (.t 7) (.t 9), none⟩,
            ⟨some 12, .ld false 1 (.t 11), none⟩,
            ⟨some 6, .mv (.t 12), none⟩] none)
          (.seq (.reg [1, 7, 8, 9, 20] [] [
             ⟨some 13, .mv (.t 6), none⟩,
             ⟨some 14, .bin .neq (.t 13) (.c (.v false (.int .i64 (-1)))), none⟩,
             ⟨some 15, .mv (.t 14), none⟩,
             ⟨some 16, .mv (.t 6), some (15, true)⟩,
             ⟨some 17, .mv (.t 1), some (15, true)⟩,
             ⟨some 18, .call 87 [] [(.t 16), (.c (.v false (.int .i64 0))), (.t 17)], some (15, true)⟩,
             ⟨some 19, .un .not (.t 18), some (15, true)⟩,
             ⟨some 20, .pick (.t 15) (.t 19) (.c (.v false (.bool false))), none⟩] none)
           (.cond (.t 20) (.seq (.reg [4] [] [
               ⟨some 4, .mv (.c (.v false (.bool false))), none⟩] none)
             (.ret))
            (.skip)))))
        (.reg [1, 7, 8, 9] [] [
          ⟨some 21, .bin .add (.t 9) (.c (.v false (.int .i64 1))), none⟩,
          ⟨some 9, .mv (.t 21), none⟩] none)))

def pb38 : PC :=
.seq (.reg [0, 1] [] [
   ⟨some 4, .mv (.c (.v false (.bool false))), none⟩] none)
 (.seq (.seq (.reg [1, 7, 8, 9] [] [
     ⟨some 7, .mv (.t 0), none⟩,
     ⟨some 8, .len (.t 7), none⟩,
     ⟨some 9, .mv (.c (.v false (.int .i64 0))), none⟩] none)
   (.blk 0 (.loop pl38_0)))
  (.seq (.reg [4] [] [
     ⟨some 4, .mv (.c (.v false (.bool true))), none⟩] none)
   (.ret)))

def pf38 : PF := ⟨[.s 4], [], pb38⟩

-- loop.example/g00496/impl.Ripe
def pl43_0 : PC :=
.seq (.reg [1, 7, 8, 9, 10] [] [
        ⟨some 10, .bin .lss (.t 9) (.t 8), none⟩] none)
      (.seq (.cond (.t 10) (.skip)
        (.exit 0))
       (.seq (.blk 1 (.seq (.reg [1, 5, 6, 7, 8, 9] [] [
            ⟨some 11, .mv (.t 9), none⟩,
            ⟨some 12, .iad 3 (.t 7) (.t 9), none⟩,
            ⟨some 13, .ld true 3 (.t 12), none⟩,
            ⟨some 6, .alloc [(.v false (.int .i64 0)), (.v false (.int .i64 0)), (.v false (.int .i64 0))], none⟩,
            ⟨some 5, .mv (.t 11), none⟩,
            ⟨none, .st 3 (.t 6) (.t 13), none⟩] none)
          (.seq (.reg [1, 5, 7, 8, 9, 16] [] [
             ⟨some 14, .ld true 3 (.t 6), none⟩,
             ⟨some 15, .mv (.t 1), none⟩,
             ⟨some 16, .call 80 [] [(.t 14), (.t 15)], none⟩] none)
           (.cond (.t 16) (.seq (.reg [4] [] [
               ⟨some 17, .mv (.t 5), none⟩,
               ⟨some 4, .mv (.t 17), none⟩] none)
             (.ret))
            (.skip)))))
        (.reg [1, 7, 8, 9] [] [
          ⟨some 18, .bin .add (.t 9) (.c (.v false (.int .i64 1))), none⟩,
          ⟨some 9, .mv (.t 18), none⟩] none)))

def pb43 : PC :=
.seq (.reg [0, 1] [] [
   ⟨some 4, .mv (.c (.v false (.int .i64 0))), none⟩] none)
 (.seq (.seq (.reg [1, 7, 8, 9] [] [
     ⟨some 7, .mv (.t 0), none⟩,
     ⟨some 8, .len (.t 7), none⟩,
     ⟨some 9, .mv (.c (.v false (.int .i64 0))), none⟩] none)
   (.blk 0 (.loop pl43_0)))
  (.seq (.reg [4] [] [
     ⟨some 4, .mv (.c (.v false (.int .i64 (-1)))), none⟩] none)
   (.ret)))

def pf43 : PF := ⟨[.s 4], [], pb43⟩

-- loop.example/g00496/impl.Waits
def pl61_0 : PC :=
.seq (.reg [1, 5, 8, 9, 10, 11] [] [
         ⟨some 11, .bin .lss (.t 10) (.t 9), none⟩] none)
       (.seq (.cond (.t 11) (.skip)
         (.exit 0))
        (.seq (.blk 1 (.seq (.reg [1, 5, 7, 8, 9, 10] [] [
             ⟨some 12, .iad 3 (.t 8) (.t 10), none⟩,
             ⟨some 13, .ld true 3 (.t 12), none⟩,
             ⟨some 7, .alloc [(.v false (.int .i64 0)), (.v false (.int .i64 0)), (.v false (.int .i64 0))], none⟩,
             ⟨none, .st 3 (.t 7) (.t 13), none⟩] none)
           (.seq (.reg [1, 5, 8, 9, 10, 17] [] [
              ⟨some 14, .ld true 3 (.t 7), none⟩,
              ⟨some 15, .mv (.t 1), none⟩,
              ⟨some 16, .call 80 [] [(.t 14), (.t 15)], none⟩,
              ⟨some 17, .un .not (.t 16), none⟩] none)
            (.cond (.t 17) (.reg [1, 5, 8, 9, 10] [] [
               ⟨some 18, .mv (.t 5), none⟩,
               ⟨some 19, .bin .add (.t 18) (.c (.v false (.int .i64 1))), none⟩,
               ⟨some 5, .mv (.t 19), none⟩] none)
             (.skip)))))
         (.reg [1, 5, 8, 9, 10] [] [
           ⟨some 20, .bin .add (.t 10) (.c (.v false (.int .i64 1))), none⟩,
           ⟨some 10, .mv (.t 20), none⟩] none)))

def pb61 : PC :=
.seq (.reg [0, 1] [] [
   ⟨some 4, .mv (.c (.v false (.int .i64 0))), none⟩] none)
 (.seq (.reg [0, 1, 5] [] [
    ⟨some 5, .mv (.c (.v false (.int .i64 0))), none⟩] none)
  (.seq (.seq (.reg [1, 5, 8, 9, 10] [] [
      ⟨some 8, .mv (.t 0), none⟩,
      ⟨some 9, .len (.t 8), none⟩,
      ⟨some 10, .mv (.c (.v false (.int .i64 0))), none⟩] none)
    (.blk 0 (.loop pl61_0)))
   (.seq (.reg [4] [] [
      ⟨some 21, .mv (.t 5), none⟩,
      ⟨some 4, .mv (.t 21), none⟩] none)
    (.ret))))

def pf61 : PF := ⟨[.s 4], [], pb61⟩

-- loop.example/g00496/impl.Without
def pb64 : PC :=
.seq (.reg [0, 1] [] [
   ⟨some 4, .mv (.c (.nl 3)), none⟩] none)
 (.seq (.reg [0, 1, 5] [(8, 5)] [
    ⟨some 6, .bsl 3 [] 0 [], none⟩,
    ⟨some 7, .mv (.t 0), none⟩,
    ⟨some 8, .app 3 24 (.t 6) (.t 7), none⟩,
    ⟨some 5, .mv (.t 8), none⟩] none)
  (.seq (.seq (.reg [1, 5, 16] [] [
      ⟨some 9, .mv (.t 1), none⟩,
      ⟨some 10, .bin .lss (.t 9) (.c (.v false (.int .i64 0))), none⟩,
      ⟨some 11, .mv (.t 10), none⟩,
      ⟨some 12, .mv (.t 1), some (11, false)⟩,
      ⟨some 13, .mv (.t 0), some (11, false)⟩,
      ⟨some 14, .len (.t 13), some (11, false)⟩,
      ⟨some 15, .bin .geq (.t 12) (.t 14), some (11, false)⟩,
      ⟨some 16, .pick (.t 11) (.c (.v false (.bool true))) (.t 15), none⟩] none)
    (.cond (.t 16) (.seq (.reg [4, 5] [] [
        ⟨some 17, .mv (.t 5), none⟩,
        ⟨some 4, .mv (.t 17), none⟩] none)
      (.ret))
     (.skip)))
   (.seq (.reg [4] [(25, 4)] [
      ⟨some 18, .mv (.t 5), none⟩,
      ⟨some 19, .mv (.t 1), none⟩,
      ⟨some 20, .slc 3 (.t 18) none (some (.t 19)), none⟩,
      ⟨some 21, .mv (.t 5), none⟩,
      ⟨some 22, .mv (.t 1), none⟩,
      ⟨some 23, .bin .add (.t 22) (.c (.v false (.int .i64 1))), none⟩,
      ⟨some 24, .slc 3 (.t 21) (some (.t 23)) none, none⟩,
      ⟨some 25, .app 3 24 (.t 20) (.t 24), none⟩,
      ⟨some 4, .mv (.t 25), none⟩] (some []))
    (.ret))))

def pf64 : PF := ⟨[.s 4], [], pb64⟩

-- loop.example/g00496/impl.isRipe
def pb80 : PC :=
.seq (.reg [1, 2] [] [
   ⟨some 2, .box 3 (.t 0), none⟩,
   ⟨some 4, .mv (.c (.v false (.bool false))), none⟩] none)
 (.seq (.reg [4] [] [
    ⟨some 5, .mv (.t 1), none⟩,
    ⟨some 6, .bin .geq (.t 5) (.c (.v false (.int .i64 2))), none⟩,
    ⟨some 7, .mv (.t 6), none⟩,
    ⟨some 8, .fad (.t 2) 2, some (7, true)⟩,
    ⟨some 9, .ld false 1 (.t 8), some (7, true)⟩,
    ⟨some 10, .mv (.t 1), some (7, true)⟩,
    ⟨some 11, .bin .sub (.t 10) (.c (.v false (.int .i64 2))), some (7, true)⟩,
    ⟨some 12, .bin .leq (.t 9) (.t 11), some (7, true)⟩,
    ⟨some 13, .pick (.t 7) (.t 12) (.c (.v false (.bool false))), none⟩,
    ⟨some 4, .mv (.t 13), none⟩] none)
  (.ret))

def pf80 : PF := ⟨[.s 4], [], pb80⟩

-- loop.example/g00496/impl.within
def pb87 : PC :=
.seq (.reg [0, 1, 2] [] [
   ⟨some 6, .mv (.c (.v false (.bool false))), none⟩] none)
 (.seq (.reg [6] [] [
    ⟨some 7, .mv (.t 0), none⟩,
    ⟨some 8, .mv (.t 1), none⟩,
    ⟨some 9, .bin .geq (.t 7) (.t 8), none⟩,
    ⟨some 10, .mv (.t 9), none⟩,
    ⟨some 11, .mv (.t 0), some (10, true)⟩,
    ⟨some 12, .mv (.t 2), some (10, true)⟩,
    ⟨some 13, .bin .leq (.t 11) (.t 12), some (10, true)⟩,
    ⟨some 14, .pick (.t 10) (.t 13) (.c (.v false (.bool false))), none⟩,
    ⟨some 6, .mv (.t 14), none⟩] none)
  (.ret))

def pf87 : PF := ⟨[.s 6], [], pb87⟩

-- loop.example/g00496/laws.FnEpochs
def pl91_0 : PC :=
.seq (.seq (.reg [3, 4, 5, 6, 7, 14, 122] [] [
                   ⟨some 119, .mv (.t 14), none⟩,
                   ⟨some 120, .mv (.t 3), none⟩,
                   ⟨some 121, .len (.t 120), none⟩,
                   ⟨some 122, .bin .lss (.t 119) (.t 121), none⟩] none)
                 (.cond (.t 122) (.skip)
                  (.exit 0)))
                (.seq (.blk 1 (.seq (.reg [3, 4, 5, 6, 7, 14, 129] [] [
                     ⟨some 125, .mv (.t 3), none⟩,
                     ⟨some 126, .mv (.t 14), none⟩,
                     ⟨some 127, .iad 1 (.t 125) (.t 126), none⟩,
                     ⟨some 128, .ld false 1 (.t 127), none⟩,
                     ⟨some 129, .bin .neq (.t 128) (.c (.v false (.int .i64 (-1)))), none⟩] none)
                   (.cond (.t 129) (.seq (.reg [2] [] [
                       ⟨some 2, .mv (.c (.v false (.bool false))), none⟩] none)
                     (.ret))
                    (.skip))))
                 (.reg [3, 4, 5, 6, 7, 14] [] [
                   ⟨some 123, .mv (.t 14), none⟩,
                   ⟨some 124, .bin .add (.t 123) (.c (.v false (.int .i64 1))), none⟩,
                   ⟨some 14, .mv (.t 124), none⟩] none))

def pb91 : PC :=
.seq (.reg [0] [] [
   ⟨some 2, .mv (.c (.v false (.bool false))), none⟩] none)
 (.seq (.seq (.reg [0, 16] [] [
     ⟨some 15, .mv (.t 0), none⟩,
     ⟨some 16, .call 141 [] [(.t 15)], none⟩] none)
   (.cond (.t 16) (.seq (.reg [2] [] [
       ⟨some 2, .mv (.c (.v false (.bool true))), none⟩] none)
     (.ret))
    (.skip)))
  (.seq (.reg [0, 3, 4] [(19, 3)] [
     ⟨some 18, .mv (.t 0), none⟩,
     ⟨some 19, .call 280 [] [(.t 18)], none⟩,
     ⟨some 17, .mv (.t 19), none⟩,
     ⟨some 20, .ext (.t 17) 0, none⟩,
     ⟨some 21, .ext (.t 17) 1, none⟩,
     ⟨some 3, .mv (.t 20), none⟩,
     ⟨some 4, .mv (.t 21), none⟩] none)
   (.seq (.reg [0, 3, 4, 5, 6] [(24, 5)] [
      ⟨some 23, .mv (.t 0), none⟩,
      ⟨some 24, .call 287 [] [(.t 23)], none⟩,
      ⟨some 22, .mv (.t 24), none⟩,
      ⟨some 25, .ext (.t 22) 0, none⟩,
      ⟨some 26, .ext (.t 22) 1, none⟩,
      ⟨some 5, .mv (.t 25), none⟩,
      ⟨some 6, .mv (.t 26), none⟩] none)
    (.seq (.reg [0, 3, 4, 5, 6, 7] [(29, 7)] [
       ⟨some 27, .mv (.t 5), none⟩,
       ⟨some 28, .mv (.t 6), none⟩,
       ⟨some 29, .call 43 [] [(.t 27), (.t 28)], none⟩,
       ⟨some 7, .mv (.t 29), none⟩] none)
     (.seq (.reg [0, 3, 4, 5, 6, 7, 8, 9] [(32, 8)] [
        ⟨some 31, .mv (.t 0), none⟩,
        ⟨some 32, .call 294 [] [(.t 31)], none⟩,
        ⟨some 30, .mv (.t 32), none⟩,
        ⟨some 33, .ext (.t 30) 0, none⟩,
        ⟨some 34, .ext (.t 30) 1, none⟩,
        ⟨some 8, .mv (.t 33), none⟩,
        ⟨some 9, .mv (.t 34), none⟩] none)
      (.seq (.reg [0, 3, 4, 5, 6, 7, 8, 9, 10, 11] [(37, 10)] [
         ⟨some 36, .mv (.t 0), none⟩,
         ⟨some 37, .call 278 [] [(.t 36)], none⟩,
         ⟨some 35, .mv (.t 37), none⟩,
         ⟨some 38, .ext (.t 35) 0, none⟩,
         ⟨some 39, .ext (.t 35) 1, none⟩,
         ⟨some 10, .mv (.t 38), none⟩,
         ⟨some 11, .mv (.t 39), none⟩] none)
       (.seq (.reg [3, 4, 5, 6, 7, 8, 9, 10, 11, 12, 13] [(42, 12)] [
          ⟨some 41, .mv (.t 0), none⟩,
          ⟨some 42, .call 283 [] [(.t 41)], none⟩,
          ⟨some 40, .mv (.t 42), none⟩,
          ⟨some 43, .ext (.t 40) 0, none⟩,
          ⟨some 44, .ext (.t 40) 1, none⟩,
          ⟨some 12, .mv (.t 43), none⟩,
          ⟨some 13, .mv (.t 44), none⟩] none)
        (.seq (.seq (.reg [3, 4, 5, 6, 7, 104] [] [
            ⟨some 45, .mv (.t 3), none⟩,
            ⟨some 46, .mv (.t 4), none⟩,
            ⟨some 47, .call 31 [] [(.t 45), (.t 46)], none⟩,
            ⟨some 48, .mv (.t 3), none⟩,
            ⟨some 49, .mv (.t 4), none⟩,
            ⟨some 50, .call 310 [] [(.t 48), (.t 49)], none⟩,
            ⟨some 51, .eqb true (.t 47) (.t 50), none⟩,
            ⟨some 52, .mv (.t 51), none⟩,
            ⟨some 53, .mv (.t 7), some (52, false)⟩,
            ⟨some 54, .mv (.t 5), some (52, false)⟩,
            ⟨some 55, .mv (.t 6), some (52, false)⟩,
            ⟨some 56, .call 324 [] [(.t 54), (.t 55)], some (52, false)⟩,
            ⟨some 57, .bin .neq (.t 53) (.t 56), some (52, false)⟩,
            ⟨some 58, .pick (.t 52) (.c (.v false (.bool true))) (.t 57), none⟩,
            ⟨some 59, .mv (.t 58), none⟩,
            ⟨some 60, .mv (.t 8), some (59, false)⟩,
            ⟨some 61, .mv (.t 9), some (59, false)⟩,
            ⟨some 62, .call 64 [] [(.t 60), (.t 61)], some (59, false)⟩,
            ⟨some 63, .mv (.t 8), some (59, false)⟩,
            ⟨some 64, .mv (.t 9), some (59, false)⟩,
            ⟨some 65, .call 345 [] [(.t 63), (.t 64)], some (59, false)⟩,
            ⟨some 66, .call 200 [] [(.t 62), (.t 65)], some (59, false)⟩,
            ⟨some 67, .un .not (.t 66), some (59, false)⟩,
            ⟨some 68, .pick (.t 59) (.c (.v false (.bool true))) (.t 67), none⟩,
            ⟨some 69, .mv (.t 68), none⟩,
            ⟨some 70, .mv (.t 10), some (69, false)⟩,
            ⟨some 71, .mv (.t 11), some (69, false)⟩,
            ⟨some 72, .call 23 [] [(.t 70), (.t 71)], some (69, false)⟩,
            ⟨some 73, .mv (.t 10), some (69, false)⟩,
            ⟨some 74, .mv (.t 11), some (69, false)⟩,
            ⟨some 75, .call 302 [] [(.t 73), (.t 74)], some (69, false)⟩,
            ⟨some 76, .eqb true (.t 72) (.t 75), some (69, false)⟩,
            ⟨some 77, .pick (.t 69) (.c (.v false (.bool true))) (.t 76), none⟩,
            ⟨some 78, .mv (.t 77), none⟩,
            ⟨some 79, .mv (.t 12), some (78, false)⟩,
            ⟨some 80, .mv (.t 13), some (78, false)⟩,
            ⟨some 81, .call 38 [] [(.t 79), (.t 80)], some (78, false)⟩,
            ⟨some 82, .mv (.t 12), some (78, false)⟩,
            ⟨some 83, .mv (.t 13), some (78, false)⟩,
            ⟨some 84, .call 318 [] [(.t 82), (.t 83)], some (78, false)⟩,
            ⟨some 85, .eqb true (.t 81) (.t 84), some (78, false)⟩,
            ⟨some 86, .pick (.t 78) (.c (.v false (.bool true))) (.t 85), none⟩,
            ⟨some 87, .mv (.t 86), none⟩,
            ⟨some 88, .mv (.t 3), some (87, false)⟩,
            ⟨some 89, .mv (.t 4), some (87, false)⟩,
            ⟨some 90, .call 33 [] [(.t 88), (.t 89)], some (87, false)⟩,
            ⟨some 91, .mv (.t 3), some (87, false)⟩,
            ⟨some 92, .mv (.t 4), some (87, false)⟩,
            ⟨some 93, .call 314 [] [(.t 91), (.t 92)], some (87, false)⟩,
            ⟨some 94, .bin .neq (.t 90) (.t 93), some (87, false)⟩,
            ⟨some 95, .pick (.t 87) (.c (.v false (.bool true))) (.t 94), none⟩,
            ⟨some 96, .mv (.t 95), none⟩,
            ⟨some 97, .mv (.t 5), some (96, false)⟩,
            ⟨some 98, .mv (.t 6), some (96, false)⟩,
            ⟨some 99, .call 61 [] [(.t 97), (.t 98)], some (96, false)⟩,
            ⟨some 100, .mv (.t 5), some (96, false)⟩,
            ⟨some 101, .mv (.t 6), some (96, false)⟩,
            ⟨some 102, .call 342 [] [(.t 100), (.t 101)], some (96, false)⟩,
            ⟨some 103, .bin .neq (.t 99) (.t 102), some (96, false)⟩,
            ⟨some 104, .pick (.t 96) (.c (.v false (.bool true))) (.t 103), none⟩] none)
          (.cond (.t 104) (.seq (.reg [2] [] [
              ⟨some 2, .mv (.c (.v false (.bool false))), none⟩] none)
            (.ret))
           (.skip)))
         (.seq (.seq (.reg [3, 4, 5, 6, 7, 107, 111, 118] [(117, 118)] [
             ⟨some 105, .mv (.t 3), none⟩,
             ⟨some 106, .mv (.t 4), none⟩,
             ⟨some 107, .call 38 [] [(.t 105), (.t 106)], none⟩,
             ⟨some 108, .mv (.t 107), none⟩,
             ⟨some 109, .mv (.t 3), some (108, true)⟩,
             ⟨some 110, .mv (.t 4), some (108, true)⟩,
             ⟨some 111, .call 31 [] [(.t 109), (.t 110)], some (108, true)⟩,
             ⟨some 112, .pick (.t 108) (.t 111) (.c (.v false (.bool false))), none⟩,
             ⟨some 113, .mv (.t 112), none⟩,
             ⟨some 114, .mv (.t 3), some (113, true)⟩,
             ⟨some 115, .mv (.t 4), some (113, true)⟩,
             ⟨some 116, .bin .add (.t 115) (.c (.v false (.int .i64 1))), some (113, true)⟩,
             ⟨some 117, .call 31 [] [(.t 114), (.t 116)], some (113, true)⟩,
             ⟨some 118, .pick (.t 113) (.t 117) (.c (.v false (.bool false))), none⟩] none)
           (.cond (.t 118) (.seq (.reg [3, 4, 5, 6, 7, 14] [] [
               ⟨some 14, .mv (.c (.v false (.int .i64 0))), none⟩] none)
             (.blk 0 (.loop pl91_0)))
            (.skip)))
          (.seq (.seq (.reg [3, 4, 5, 6, 7, 131] [] [
              ⟨some 130, .mv (.t 7), none⟩,
              ⟨some 131, .bin .lss (.t 130) (.c (.v false (.int .i64 0))), none⟩] none)
            (.cond (.t 131) (.seq (.reg [2] [] [
                ⟨some 132, .mv (.t 5), none⟩,
                ⟨some 133, .mv (.t 6), none⟩,
                ⟨some 134, .call 61 [] [(.t 132), (.t 133)], none⟩,
                ⟨some 135, .mv (.t 5), none⟩,
                ⟨some 136, .len (.t 135), none⟩,
                ⟨some 137, .bin .eql (.t 134) (.t 136), none⟩,
                ⟨some 2, .mv (.t 137), none⟩] none)
              (.ret))
             (.skip)))
           (.seq (.reg [2] [] [
              ⟨some 138, .mv (.t 5), none⟩,
              ⟨some 139, .mv (.t 7), none⟩,
              ⟨some 140, .iad 3 (.t 138) (.t 139), none⟩,
              ⟨some 141, .fad (.t 140) 2, none⟩,
              ⟨some 142, .ld false 1 (.t 141), none⟩,
              ⟨some 143, .bin .add (.t 142) (.c (.v false (.int .i64 2))), none⟩,
              ⟨some 144, .mv (.t 6), none⟩,
              ⟨some 145, .bin .leq (.t 143) (.t 144), none⟩,
              ⟨some 146, .mv (.t 145), none⟩,
              ⟨some 147, .mv (.t 5), some (146, true)⟩,
              ⟨some 148, .mv (.t 6), some (146, true)⟩,
              ⟨some 149, .call 61 [] [(.t 147), (.t 148)], some (146, true)⟩,
              ⟨some 150, .mv (.t 5), some (146, true)⟩,
              ⟨some 151, .len (.t 150), some (146, true)⟩,
              ⟨some 152, .bin .lss (.t 149) (.t 151), some (146, true)⟩,
              ⟨some 153, .pick (.t 146) (.t 152) (.c (.v false (.bool false))), none⟩,
              ⟨some 154, .mv (.t 153), none⟩,
              ⟨some 155, .mv (.t 3), some (154, true)⟩,
              ⟨some 156, .mv (.t 4), some (154, true)⟩,
              ⟨some 157, .call 31 [] [(.t 155), (.t 156)], some (154, true)⟩,
              ⟨some 158, .un .not (.t 157), some (154, true)⟩,
              ⟨some 159, .mv (.t 158), some (154, true)⟩,
              ⟨some 160, .mv (.t 3), some (159, false)⟩,
              ⟨some 161, .mv (.t 4), some (159, false)⟩,
              ⟨some 162, .call 33 [] [(.t 160), (.t 161)], some (159, false)⟩,
              ⟨some 163, .mv (.t 4), some (159, false)⟩,
              ⟨some 164, .bin .eql (.t 162) (.t 163), some (159, false)⟩,
              ⟨some 165, .pick (.t 159) (.c (.v false (.bool true))) (.t 164), some (154, true)⟩,
              ⟨some 166, .pick (.t 154) (.t 165) (.c (.v false (.bool false))), none⟩,
              ⟨some 2, .mv (.t 166), none⟩] none)
            (.ret))))))))))))

def pf91 : PF := ⟨[.s 2], [], pb91⟩

-- loop.example/g00496/laws.big
def pb141 : PC :=
.seq (.reg [0] [] [
   ⟨some 2, .mv (.c (.v false (.bool false))), none⟩] none)
 (.seq (.reg [2] [] [
    ⟨some 3, .mv (.t 0), none⟩,
    ⟨some 4, .len (.t 3), none⟩,
    ⟨some 5, .bin .gtr (.t 4) (.c (.v false (.int .i64 1048576))), none⟩,
    ⟨some 2, .mv (.t 5), none⟩] none)
  (.ret))

def pf141 : PF := ⟨[.s 2], [], pb141⟩

-- loop.example/g00496/laws.sameDead
def pl200_0 : PC :=
.seq (.seq (.reg [0, 1, 5, 14] [] [
          ⟨some 11, .mv (.t 5), none⟩,
          ⟨some 12, .mv (.t 0), none⟩,
          ⟨some 13, .len (.t 12), none⟩,
          ⟨some 14, .bin .lss (.t 11) (.t 13), none⟩] none)
        (.cond (.t 14) (.skip)
         (.exit 0)))
       (.seq (.blk 1 (.seq (.reg [0, 1, 5, 25] [] [
            ⟨some 17, .mv (.t 0), none⟩,
            ⟨some 18, .mv (.t 5), none⟩,
            ⟨some 19, .iad 3 (.t 17) (.t 18), none⟩,
            ⟨some 20, .ld true 3 (.t 19), none⟩,
            ⟨some 21, .mv (.t 1), none⟩,
            ⟨some 22, .mv (.t 5), none⟩,
            ⟨some 23, .iad 3 (.t 21) (.t 22), none⟩,
            ⟨some 24, .ld true 3 (.t 23), none⟩,
            ⟨some 25, .eqs true [0, 0, 0] (.t 20) (.t 24), none⟩] (some []))
          (.cond (.t 25) (.seq (.reg [4] [] [
              ⟨some 4, .mv (.c (.v false (.bool false))), none⟩] none)
            (.ret))
           (.skip))))
        (.reg [0, 1, 5] [] [
          ⟨some 15, .mv (.t 5), none⟩,
          ⟨some 16, .bin .add (.t 15) (.c (.v false (.int .i64 1))), none⟩,
          ⟨some 5, .mv (.t 16), none⟩] none))

def pb200 : PC :=
.seq (.reg [0, 1] [] [
   ⟨some 4, .mv (.c (.v false (.bool false))), none⟩] none)
 (.seq (.seq (.reg [0, 1, 10] [] [
     ⟨some 6, .mv (.t 0), none⟩,
     ⟨some 7, .len (.t 6), none⟩,
     ⟨some 8, .mv (.t 1), none⟩,
     ⟨some 9, .len (.t 8), none⟩,
     ⟨some 10, .bin .neq (.t 7) (.t 9), none⟩] none)
   (.cond (.t 10) (.seq (.reg [4] [] [
       ⟨some 4, .mv (.c (.v false (.bool false))), none⟩] none)
     (.ret))
    (.skip)))
  (.seq (.seq (.reg [0, 1, 5] [] [
      ⟨some 5, .mv (.c (.v false (.int .i64 0))), none⟩] none)
    (.blk 0 (.loop pl200_0)))
   (.seq (.reg [4] [] [
      ⟨some 4, .mv (.c (.v false (.bool true))), none⟩] none)
    (.ret))))

def pf200 : PF := ⟨[.s 4], [], pb200⟩

-- loop.example/g00496/spec.DrawHasDead
def pb278 : PC :=
.seq (.reg [0] [] [
   ⟨some 2, .mv (.c (.nl 3)), none⟩,
   ⟨some 3, .mv (.c (.v false (.int .i64 0))), none⟩] none)
 (.seq (.reg [4] [(8, 4)] [
    ⟨some 7, .mv (.t 0), none⟩,
    ⟨some 8, .call 379 [] [(.t 7)], none⟩,
    ⟨some 4, .mv (.t 8), none⟩] none)
  (.seq (.reg [4, 5] [(11, 5)] [
     ⟨some 10, .mv (.t 4), none⟩,
     ⟨some 11, .call 364 [0] [(.t 10)], none⟩,
     ⟨some 9, .mv (.t 11), none⟩,
     ⟨some 12, .ext (.t 9) 0, none⟩,
     ⟨some 13, .ext (.t 9) 1, none⟩,
     ⟨some 5, .mv (.t 12), none⟩,
     ⟨some 6, .mv (.t 13), none⟩] none)
   (.seq (.reg [2, 3, 5] [(16, 3)] [
      ⟨some 14, .mv (.t 5), none⟩,
      ⟨some 15, .mv (.t 4), none⟩,
      ⟨some 16, .call 375 [0] [(.t 15), (.c (.v false (.int .i64 5)))], none⟩,
      ⟨some 2, .mv (.t 14), none⟩,
      ⟨some 3, .mv (.t 16), none⟩] none)
    (.ret))))

def pf278 : PF := ⟨[.s 2, .s 3], [], pb278⟩

-- loop.example/g00496/spec.DrawMayAdvance
def pb280 : PC :=
.seq (.reg [0] [] [
   ⟨some 2, .mv (.c (.nl 1)), none⟩,
   ⟨some 3, .mv (.c (.v false (.int .i64 0))), none⟩] none)
 (.seq (.reg [4] [(6, 4)] [
    ⟨some 5, .mv (.t 0), none⟩,
    ⟨some 6, .call 379 [] [(.t 5)], none⟩,
    ⟨some 4, .mv (.t 6), none⟩] none)
  (.seq (.reg [2, 3] [(8, 2)] [
     ⟨some 7, .mv (.t 4), none⟩,
     ⟨some 8, .call 365 [0] [(.t 7)], none⟩,
     ⟨some 9, .ext (.t 8) 0, none⟩,
     ⟨some 10, .ext (.t 8) 1, none⟩,
     ⟨some 2, .mv (.t 9), none⟩,
     ⟨some 3, .mv (.t 10), none⟩] none)
   (.ret)))

def pf280 : PF := ⟨[.s 2, .s 3], [], pb280⟩

-- loop.example/g00496/spec.DrawPinsOk
def pb283 : PC :=
.seq (.reg [0] [] [
   ⟨some 2, .mv (.c (.nl 1)), none⟩,
   ⟨some 3, .mv (.c (.v false (.int .i64 0))), none⟩] none)
 (.seq (.reg [4] [(8, 4)] [
    ⟨some 7, .mv (.t 0), none⟩,
    ⟨some 8, .call 379 [] [(.t 7)], none⟩,
    ⟨some 4, .mv (.t 8), none⟩] none)
  (.seq (.reg [4, 5, 6] [(11, 5)] [
     ⟨some 10, .mv (.t 4), none⟩,
     ⟨some 11, .call 365 [0] [(.t 10)], none⟩,
     ⟨some 9, .mv (.t 11), none⟩,
     ⟨some 12, .ext (.t 9) 0, none⟩,
     ⟨some 13, .ext (.t 9) 1, none⟩,
     ⟨some 5, .mv (.t 12), none⟩,
     ⟨some 6, .mv (.t 13), none⟩] none)
   (.seq (.seq (.reg [4, 5, 6, 15] [] [
       ⟨some 14, .mv (.t 4), none⟩,
       ⟨some 15, .call 382 [0] [(.t 14), (.c (.v false (.int .i64 5)))], none⟩] none)
     (.cond (.t 15) (.reg [5, 6] [(23, 5)] [
        ⟨some 16, .mv (.t 5), none⟩,
        ⟨some 17, .mv (.t 4), none⟩,
        ⟨some 18, .mv (.t 6), none⟩,
        ⟨some 19, .bin .add (.t 18) (.c (.v false (.int .i64 1))), none⟩,
        ⟨some 20, .bsl 1 [.int .i64 0, .int .i64 0] 2 [(0, (.c (.v false (.int .i64 (-2))))), (1, (.t 19))], none⟩,
        ⟨some 21, .call 378 [0] [(.t 17), (.t 20)], none⟩,
        ⟨some 22, .bsl 1 [.int .i64 0] 1 [(0, (.t 21))], none⟩,
        ⟨some 23, .app 1 8 (.t 16) (.t 22), none⟩,
        ⟨some 5, .mv (.t 23), none⟩] none)
      (.skip)))
    (.seq (.reg [2, 3, 5] [] [
       ⟨some 24, .mv (.t 5), none⟩,
       ⟨some 25, .mv (.t 6), none⟩,
       ⟨some 2, .mv (.t 24), none⟩,
       ⟨some 3, .mv (.t 25), none⟩] none)
     (.ret)))))

def pf283 : PF := ⟨[.s 2, .s 3], [], pb283⟩

-- loop.example/g00496/spec.DrawRipe
def pb287 : PC :=
.seq (.reg [0] [] [
   ⟨some 2, .mv (.c (.nl 3)), none⟩,
   ⟨some 3, .mv (.c (.v false (.int .i64 0))), none⟩] none)
 (.seq (.reg [4] [(6, 4)] [
    ⟨some 5, .mv (.t 0), none⟩,
    ⟨some 6, .call 379 [] [(.t 5)], none⟩,
    ⟨some 4, .mv (.t 6), none⟩] none)
  (.seq (.reg [2, 3] [(8, 2)] [
     ⟨some 7, .mv (.t 4), none⟩,
     ⟨some 8, .call 364 [0] [(.t 7)], none⟩,
     ⟨some 9, .ext (.t 8) 0, none⟩,
     ⟨some 10, .ext (.t 8) 1, none⟩,
     ⟨some 2, .mv (.t 9), none⟩,
     ⟨some 3, .mv (.t 10), none⟩] none)
   (.ret)))

def pf287 : PF := ⟨[.s 2, .s 3], [], pb287⟩

-- loop.example/g00496/spec.DrawWithout
def pb294 : PC :=
.seq (.reg [0] [] [
   ⟨some 2, .mv (.c (.nl 3)), none⟩,
   ⟨some 3, .mv (.c (.v false (.int .i64 0))), none⟩] none)
 (.seq (.reg [4] [(8, 4)] [
    ⟨some 7, .mv (.t 0), none⟩,
    ⟨some 8, .call 379 [] [(.t 7)], none⟩,
    ⟨some 4, .mv (.t 8), none⟩] none)
  (.seq (.reg [4, 5] [(11, 5)] [
     ⟨some 10, .mv (.t 4), none⟩,
     ⟨some 11, .call 364 [0] [(.t 10)], none⟩,
     ⟨some 9, .mv (.t 11), none⟩,
     ⟨some 12, .ext (.t 9) 0, none⟩,
     ⟨some 13, .ext (.t 9) 1, none⟩,
     ⟨some 5, .mv (.t 12), none⟩,
     ⟨some 6, .mv (.t 13), none⟩] none)
   (.seq (.reg [2, 3, 5] [] [
      ⟨some 14, .mv (.t 5), none⟩,
      ⟨some 15, .mv (.t 4), none⟩,
      ⟨some 16, .call 375 [0] [(.t 15), (.c (.v false (.int .i64 6)))], none⟩,
      ⟨some 17, .bin .sub (.t 16) (.c (.v false (.int .i64 1))), none⟩,
      ⟨some 2, .mv (.t 14), none⟩,
      ⟨some 3, .mv (.t 17), none⟩] none)
    (.ret))))

def pf294 : PF := ⟨[.s 2, .s 3], [], pb294⟩

-- loop.example/g00496/spec.HasDead
def pl302_0 : PC :=
.seq (.seq (.reg [0, 1, 5, 9] [] [
         ⟨some 6, .mv (.t 5), none⟩,
         ⟨some 7, .mv (.t 0), none⟩,
         ⟨some 8, .len (.t 7), none⟩,
         ⟨some 9, .bin .lss (.t 6) (.t 8), none⟩] none)
       (.cond (.t 9) (.skip)
        (.exit 0)))
      (.seq (.blk 1 (.seq (.reg [0, 1, 5, 18] [] [
           ⟨some 12, .mv (.t 0), none⟩,
           ⟨some 13, .mv (.t 5), none⟩,
           ⟨some 14, .iad 3 (.t 12) (.t 13), none⟩,
           ⟨some 15, .fad (.t 14) 0, none⟩,
           ⟨some 16, .ld false 1 (.t 15), none⟩,
           ⟨some 17, .mv (.t 1), none⟩,
           ⟨some 18, .bin .eql (.t 16) (.t 17), none⟩] none)
         (.cond (.t 18) (.seq (.reg [4] [] [
             ⟨some 4, .mv (.c (.v false (.bool true))), none⟩] none)
           (.ret))
          (.skip))))
       (.reg [0, 1, 5] [] [
         ⟨some 10, .mv (.t 5), none⟩,
         ⟨some 11, .bin .add (.t 10) (.c (.v false (.int .i64 1))), none⟩,
         ⟨some 5, .mv (.t 11), none⟩] none))

def pb302 : PC :=
.seq (.reg [0, 1] [] [
   ⟨some 4, .mv (.c (.v false (.bool false))), none⟩] none)
 (.seq (.seq (.reg [0, 1, 5] [] [
     ⟨some 5, .mv (.c (.v false (.int .i64 0))), none⟩] none)
   (.blk 0 (.loop pl302_0)))
  (.seq (.reg [4] [] [
     ⟨some 4, .mv (.c (.v false (.bool false))), none⟩] none)
   (.ret)))

def pf302 : PF := ⟨[.s 4], [], pb302⟩

-- loop.example/g00496/spec.MayAdvance
def pl310_0 : PC :=
.seq (.seq (.reg [0, 1, 5, 9] [] [
         ⟨some 6, .mv (.t 5), none⟩,
         ⟨some 7, .mv (.t 0), none⟩,
         ⟨some 8, .len (.t 7), none⟩,
         ⟨some 9, .bin .lss (.t 6) (.t 8), none⟩] none)
       (.cond (.t 9) (.skip)
        (.exit 0)))
      (.seq (.blk 1 (.seq (.reg [0, 1, 5, 24] [] [
           ⟨some 12, .mv (.t 0), none⟩,
           ⟨some 13, .mv (.t 5), none⟩,
           ⟨some 14, .iad 1 (.t 12) (.t 13), none⟩,
           ⟨some 15, .ld false 1 (.t 14), none⟩,
           ⟨some 16, .bin .neq (.t 15) (.c (.v false (.int .i64 (-1)))), none⟩,
           ⟨some 17, .mv (.t 16), none⟩,
           ⟨some 18, .mv (.t 0), some (17, true)⟩,
           ⟨some 19, .mv (.t 5), some (17, true)⟩,
           ⟨some 20, .iad 1 (.t 18) (.t 19), some (17, true)⟩,
           ⟨some 21, .ld false 1 (.t 20), some (17, true)⟩,
           ⟨some 22, .mv (.t 1), some (17, true)⟩,
           ⟨some 23, .bin .neq (.t 21) (.t 22), some (17, true)⟩,
           ⟨some 24, .pick (.t 17) (.t 23) (.c (.v false (.bool false))), none⟩] none)
         (.cond (.t 24) (.seq (.reg [4] [] [
             ⟨some 4, .mv (.c (.v false (.bool false))), none⟩] none)
           (.ret))
          (.skip))))
       (.reg [0, 1, 5] [] [
         ⟨some 10, .mv (.t 5), none⟩,
         ⟨some 11, .bin .add (.t 10) (.c (.v false (.int .i64 1))), none⟩,
         ⟨some 5, .mv (.t 11), none⟩] none))

def pb310 : PC :=
.seq (.reg [0, 1] [] [
   ⟨some 4, .mv (.c (.v false (.bool false))), none⟩] none)
 (.seq (.seq (.reg [0, 1, 5] [] [
     ⟨some 5, .mv (.c (.v false (.int .i64 0))), none⟩] none)
   (.blk 0 (.loop pl310_0)))
  (.seq (.reg [4] [] [
     ⟨some 4, .mv (.c (.v false (.bool true))), none⟩] none)
   (.ret)))

def pf310 : PF := ⟨[.s 4], [], pb310⟩

-- loop.example/g00496/spec.OldestPin
def pl314_0 : PC :=
.seq (.seq (.reg [0, 5, 6, 7, 12] [] [
           ⟨some 9, .mv (.t 7), none⟩,
           ⟨some 10, .mv (.t 0), none⟩,
           ⟨some 11, .len (.t 10), none⟩,
           ⟨some 12, .bin .lss (.t 9) (.t 11), none⟩] none)
         (.cond (.t 12) (.skip)
          (.exit 0)))
        (.seq (.blk 1 (.seq (.reg [0, 5, 6, 7, 31] [] [
             ⟨some 15, .mv (.t 0), none⟩,
             ⟨some 16, .mv (.t 7), none⟩,
             ⟨some 17, .iad 1 (.t 15) (.t 16), none⟩,
             ⟨some 18, .ld false 1 (.t 17), none⟩,
             ⟨some 19, .bin .geq (.t 18) (.c (.v false (.int .i64 0))), none⟩,
             ⟨some 20, .mv (.t 19), none⟩,
             ⟨some 21, .mv (.t 6), some (20, true)⟩,
             ⟨some 22, .un .not (.t 21), some (20, true)⟩,
             ⟨some 23, .mv (.t 22), some (20, true)⟩,
             ⟨some 24, .mv (.t 0), some (23, false)⟩,
             ⟨some 25, .mv (.t 7), some (23, false)⟩,
             ⟨some 26, .iad 1 (.t 24) (.t 25), some (23, false)⟩,
             ⟨some 27, .ld false 1 (.t 26), some (23, false)⟩,
             ⟨some 28, .mv (.t 5), some (23, false)⟩,
             ⟨some 29, .bin .lss (.t 27) (.t 28), some (23, false)⟩,
             ⟨some 30, .pick (.t 23) (.c (.v false (.bool true))) (.t 29), some (20, true)⟩,
             ⟨some 31, .pick (.t 20) (.t 30) (.c (.v false (.bool false))), none⟩] none)
           (.cond (.t 31) (.seq (.reg [0, 5, 7] [] [
               ⟨some 32, .mv (.t 0), none⟩,
               ⟨some 33, .mv (.t 7), none⟩,
               ⟨some 34, .iad 1 (.t 32) (.t 33), none⟩,
               ⟨some 35, .ld false 1 (.t 34), none⟩,
               ⟨some 5, .mv (.t 35), none⟩] none)
             (.reg [0, 5, 6, 7] [] [
               ⟨some 6, .mv (.c (.v false (.bool true))), none⟩] none))
            (.skip))))
         (.reg [0, 5, 6, 7] [] [
           ⟨some 13, .mv (.t 7), none⟩,
           ⟨some 14, .bin .add (.t 13) (.c (.v false (.int .i64 1))), none⟩,
           ⟨some 7, .mv (.t 14), none⟩] none))

def pb314 : PC :=
.seq (.reg [0, 1] [] [
   ⟨some 4, .mv (.c (.v false (.int .i64 0))), none⟩] none)
 (.seq (.reg [0, 5] [] [
    ⟨some 8, .mv (.t 1), none⟩,
    ⟨some 5, .mv (.t 8), none⟩] none)
  (.seq (.reg [0, 5, 6] [] [
     ⟨some 6, .mv (.c (.v false (.bool false))), none⟩] none)
   (.seq (.seq (.reg [0, 5, 6, 7] [] [
       ⟨some 7, .mv (.c (.v false (.int .i64 0))), none⟩] none)
     (.blk 0 (.loop pl314_0)))
    (.seq (.reg [4] [] [
       ⟨some 36, .mv (.t 5), none⟩,
       ⟨some 4, .mv (.t 36), none⟩] none)
     (.ret)))))

def pf314 : PF := ⟨[.s 4], [], pb314⟩

-- loop.example/g00496/spec.PinsOk
def pl318_0 : PC :=
.seq (.seq (.reg [0, 1, 5, 9] [] [
         ⟨some 6, .mv (.t 5), none⟩,
         ⟨some 7, .mv (.t 0), none⟩,
         ⟨some 8, .len (.t 7), none⟩,
         ⟨some 9, .bin .lss (.t 6) (.t 8), none⟩] none)
       (.cond (.t 9) (.skip)
        (.exit 0)))
      (.seq (.blk 1 (.seq (.reg [0, 1, 5, 25] [] [
           ⟨some 12, .mv (.t 0), none⟩,
           ⟨some 13, .mv (.t 5), none⟩,
           ⟨some 14, .iad 1 (.t 12) (.t 13), none⟩,
           ⟨some 15, .ld false 1 (.t 14), none⟩,
           ⟨some 16, .bin .neq (.t 15) (.c (.v false (.int .i64 (-1)))), none⟩,
           ⟨some 17, .mv (.t 16), none⟩,
           ⟨some 18, .mv (.t 0), some (17, true)⟩,
           ⟨some 19, .mv (.t 5), some (17, true)⟩,
           ⟨some 20, .iad 1 (.t 18) (.t 19), some (17, true)⟩,
           ⟨some 21, .ld false 1 (.t 20), some (17, true)⟩,
           ⟨some 22, .mv (.t 1), some (17, true)⟩,
           ⟨some 23, .call 377 [] [(.t 21), (.c (.v false (.int .i64 0))), (.t 22)], some (17, true)⟩,
           ⟨some 24, .un .not (.t 23), some (17, true)⟩,
           ⟨some 25, .pick (.t 17) (.t 24) (.c (.v false (.bool false))), none⟩] none)
         (.cond (.t 25) (.seq (.reg [4] [] [
             ⟨some 4, .mv (.c (.v false (.bool false))), none⟩] none)
           (.ret))
          (.skip))))
       (.reg [0, 1, 5] [] [
         ⟨some 10, .mv (.t 5), none⟩,
         ⟨some 11, .bin .add (.t 10) (.c (.v false (.int .i64 1))), none⟩,
         ⟨some 5, .mv (.t 11), none⟩] none))

def pb318 : PC :=
.seq (.reg [0, 1] [] [
   ⟨some 4, .mv (.c (.v false (.bool false))), none⟩] none)
 (.seq (.seq (.reg [0, 1, 5] [] [
     ⟨some 5, .mv (.c (.v false (.int .i64 0))), none⟩] none)
   (.blk 0 (.loop pl318_0)))
  (.seq (.reg [4] [] [
     ⟨some 4, .mv (.c (.v false (.bool true))), none⟩] none)
   (.ret)))

def pf318 : PF := ⟨[.s 4], [], pb318⟩

-- loop.example/g00496/spec.Ripe
def pl324_0 : PC :=
.seq (.seq (.reg [0, 1, 5, 9] [] [
         ⟨some 6, .mv (.t 5), none⟩,
         ⟨some 7, .mv (.t 0), none⟩,
         ⟨some 8, .len (.t 7), none⟩,
         ⟨some 9, .bin .lss (.t 6) (.t 8), none⟩] none)
       (.cond (.t 9) (.skip)
        (.exit 0)))
      (.seq (.blk 1 (.seq (.reg [0, 1, 5, 17] [] [
           ⟨some 12, .mv (.t 0), none⟩,
           ⟨some 13, .mv (.t 5), none⟩,
           ⟨some 14, .iad 3 (.t 12) (.t 13), none⟩,
           ⟨some 15, .ld true 3 (.t 14), none⟩,
           ⟨some 16, .mv (.t 1), none⟩,
           ⟨some 17, .call 366 [] [(.t 15), (.t 16)], none⟩] none)
         (.cond (.t 17) (.seq (.reg [4] [] [
             ⟨some 18, .mv (.t 5), none⟩,
             ⟨some 4, .mv (.t 18), none⟩] none)
           (.ret))
          (.skip))))
       (.reg [0, 1, 5] [] [
         ⟨some 10, .mv (.t 5), none⟩,
         ⟨some 11, .bin .add (.t 10) (.c (.v false (.int .i64 1))), none⟩,
         ⟨some 5, .mv (.t 11), none⟩] none))

def pb324 : PC :=
.seq (.reg [0, 1] [] [
   ⟨some 4, .mv (.c (.v false (.int .i64 0))), none⟩] none)
 (.seq (.seq (.reg [0, 1, 5] [] [
     ⟨some 5, .mv (.c (.v false (.int .i64 0))), none⟩] none)
   (.blk 0 (.loop pl324_0)))
  (.seq (.reg [4] [] [
     ⟨some 4, .mv (.c (.v false (.int .i64 (-1)))), none⟩] none)
   (.ret)))

def pf324 : PF := ⟨[.s 4], [], pb324⟩

-- loop.example/g00496/spec.Waits
def pl342_0 : PC :=
.seq (.seq (.reg [0, 1, 5, 6, 10] [] [
          ⟨some 7, .mv (.t 6), none⟩,
          ⟨some 8, .mv (.t 0), none⟩,
          ⟨some 9, .len (.t 8), none⟩,
          ⟨some 10, .bin .lss (.t 7) (.t 9), none⟩] none)
        (.cond (.t 10) (.skip)
         (.exit 0)))
       (.seq (.blk 1 (.seq (.reg [0, 1, 5, 6, 19] [] [
            ⟨some 13, .mv (.t 0), none⟩,
            ⟨some 14, .mv (.t 6), none⟩,
            ⟨some 15, .iad 3 (.t 13) (.t 14), none⟩,
            ⟨some 16, .ld true 3 (.t 15), none⟩,
            ⟨some 17, .mv (.t 1), none⟩,
            ⟨some 18, .call 366 [] [(.t 16), (.t 17)], none⟩,
            ⟨some 19, .un .not (.t 18), none⟩] none)
          (.cond (.t 19) (.reg [0, 1, 5, 6] [] [
             ⟨some 20, .mv (.t 5), none⟩,
             ⟨some 21, .bin .add (.t 20) (.c (.v false (.int .i64 1))), none⟩,
             ⟨some 5, .mv (.t 21), none⟩] none)
           (.skip))))
        (.reg [0, 1, 5, 6] [] [
          ⟨some 11, .mv (.t 6), none⟩,
          ⟨some 12, .bin .add (.t 11) (.c (.v false (.int .i64 1))), none⟩,
          ⟨some 6, .mv (.t 12), none⟩] none))

def pb342 : PC :=
.seq (.reg [0, 1] [] [
   ⟨some 4, .mv (.c (.v false (.int .i64 0))), none⟩] none)
 (.seq (.reg [0, 1, 5] [] [
    ⟨some 5, .mv (.c (.v false (.int .i64 0))), none⟩] none)
  (.seq (.seq (.reg [0, 1, 5, 6] [] [
      ⟨some 6, .mv (.c (.v false (.int .i64 0))), none⟩] none)
    (.blk 0 (.loop pl342_0)))
   (.seq (.reg [4] [] [
      ⟨some 22, .mv (.t 5), none⟩,
      ⟨some 4, .mv (.t 22), none⟩] none)
    (.ret))))

def pf342 : PF := ⟨[.s 4], [], pb342⟩

-- loop.example/g00496/spec.Without
def pl345_0 : PC :=
.seq (.seq (.reg [0, 1, 5, 6, 11] [] [
          ⟨some 8, .mv (.t 6), none⟩,
          ⟨some 9, .mv (.t 0), none⟩,
          ⟨some 10, .len (.t 9), none⟩,
          ⟨some 11, .bin .lss (.t 8) (.t 10), none⟩] none)
        (.cond (.t 11) (.skip)
         (.exit 0)))
       (.seq (.blk 1 (.seq (.reg [0, 1, 5, 6, 16] [] [
            ⟨some 14, .mv (.t 6), none⟩,
            ⟨some 15, .mv (.t 1), none⟩,
            ⟨some 16, .bin .neq (.t 14) (.t 15), none⟩] none)
          (.cond (.t 16) (.reg [0, 1, 5, 6] [(23, 5)] [
             ⟨some 17, .mv (.t 5), none⟩,
             ⟨some 18, .mv (.t 0), none⟩,
             ⟨some 19, .mv (.t 6), none⟩,
             ⟨some 20, .iad 3 (.t 18) (.t 19), none⟩,
             ⟨some 21, .ld true 3 (.t 20), none⟩,
             ⟨some 22, .bsl 3 [.int .i64 0, .int .i64 0, .int .i64 0] 1 [(0, (.t 21))], none⟩,
             ⟨some 23, .app 3 24 (.t 17) (.t 22), none⟩,
             ⟨some 5, .mv (.t 23), none⟩] none)
           (.skip))))
        (.reg [0, 1, 5, 6] [] [
          ⟨some 12, .mv (.t 6), none⟩,
          ⟨some 13, .bin .add (.t 12) (.c (.v false (.int .i64 1))), none⟩,
          ⟨some 6, .mv (.t 13), none⟩] none))

def pb345 : PC :=
.seq (.reg [0, 1] [] [
   ⟨some 4, .mv (.c (.nl 3)), none⟩] none)
 (.seq (.reg [0, 1, 5] [(7, 5)] [
    ⟨some 7, .bsl 3 [] 0 [], none⟩,
    ⟨some 5, .mv (.t 7), none⟩] none)
  (.seq (.seq (.reg [0, 1, 5, 6] [] [
      ⟨some 6, .mv (.c (.v false (.int .i64 0))), none⟩] none)
    (.blk 0 (.loop pl345_0)))
   (.seq (.reg [4, 5] [] [
      ⟨some 24, .mv (.t 5), none⟩,
      ⟨some 4, .mv (.t 24), none⟩] none)
    (.ret))))

def pf345 : PF := ⟨[.s 4], [], pb345⟩

-- loop.example/g00496/spec.l17Dead
def pl364_0 : PC :=
.seq (.seq (.reg [0, 4, 5, 10] [] [
          ⟨some 9, .mv (.t 5), none⟩,
          ⟨some 10, .bin .gtr (.t 9) (.c (.v false (.int .i64 0))), none⟩] none)
        (.cond (.t 10) (.skip)
         (.exit 0)))
       (.seq (.blk 1 (.reg [0, 4, 5] [(22, 4)] [
           ⟨some 13, .mv (.t 4), none⟩,
           ⟨some 14, .mv (.t 0), none⟩,
           ⟨some 15, .call 375 [0] [(.t 14), (.c (.v false (.int .i64 5)))], none⟩,
           ⟨some 16, .mv (.t 0), none⟩,
           ⟨some 17, .call 375 [0] [(.t 16), (.c (.v false (.int .i64 2)))], none⟩,
           ⟨some 18, .mv (.t 0), none⟩,
           ⟨some 19, .call 375 [0] [(.t 18), (.c (.v false (.int .i64 5)))], none⟩,
           ⟨some 20, .build [(.v false (.int .i64 0)), (.v false (.int .i64 0)), (.v false (.int .i64 0))] [(0, 1, (.t 15)), (1, 1, (.t 17)), (2, 1, (.t 19))], none⟩,
           ⟨some 21, .bsl 3 [.int .i64 0, .int .i64 0, .int .i64 0] 1 [(0, (.t 20))], none⟩,
           ⟨some 22, .app 3 24 (.t 13) (.t 21), none⟩,
           ⟨some 4, .mv (.t 22), none⟩] none))
        (.reg [0, 4, 5] [] [
          ⟨some 11, .mv (.t 5), none⟩,
          ⟨some 12, .bin .sub (.t 11) (.c (.v false (.int .i64 1))), none⟩,
          ⟨some 5, .mv (.t 12), none⟩] none))

def pb364 : PC :=
.seq (.reg [0] [] [
   ⟨some 2, .mv (.c (.nl 3)), none⟩,
   ⟨some 3, .mv (.c (.v false (.int .i64 0))), none⟩] none)
 (.seq (.reg [0, 4] [(6, 4)] [
    ⟨some 6, .bsl 3 [] 0 [], none⟩,
    ⟨some 4, .mv (.t 6), none⟩] none)
  (.seq (.seq (.reg [0, 4, 5] [(8, 5)] [
      ⟨some 7, .mv (.t 0), none⟩,
      ⟨some 8, .call 375 [0] [(.t 7), (.c (.v false (.int .i64 5)))], none⟩,
      ⟨some 5, .mv (.t 8), none⟩] none)
    (.blk 0 (.loop pl364_0)))
   (.seq (.reg [0, 2, 3, 4] [(25, 3)] [
      ⟨some 23, .mv (.t 4), none⟩,
      ⟨some 24, .mv (.t 0), none⟩,
      ⟨some 25, .call 375 [0] [(.t 24), (.c (.v false (.int .i64 7)))], none⟩,
      ⟨some 2, .mv (.t 23), none⟩,
      ⟨some 3, .mv (.t 25), none⟩] none)
    (.ret))))

def pf364 : PF := ⟨[.s 2, .s 3], [0], pb364⟩

-- loop.example/g00496/spec.l17Pins
def pl365_0 : PC :=
.seq (.seq (.reg [0, 4, 5, 6, 13] [] [
           ⟨some 12, .mv (.t 6), none⟩,
           ⟨some 13, .bin .gtr (.t 12) (.c (.v false (.int .i64 0))), none⟩] none)
         (.cond (.t 13) (.skip)
          (.exit 0)))
        (.seq (.blk 1 (.reg [0, 4, 5, 6] [(25, 5)] [
            ⟨some 16, .mv (.t 5), none⟩,
            ⟨some 17, .mv (.t 0), none⟩,
            ⟨some 18, .mv (.t 4), none⟩,
            ⟨some 19, .mv (.t 4), none⟩,
            ⟨some 20, .mv (.t 4), none⟩,
            ⟨some 21, .bin .sub (.t 20) (.c (.v false (.int .i64 1))), none⟩,
            ⟨some 22, .bsl 1 [.int .i64 0, .int .i64 0, .int .i64 0, .int .i64 0, .int .i64 0, .int .i64 0] 6 [(0, (.c (.v false (.int .i64 (-1))))), (1, (.c (.v false (.int .i64 (-1))))), (2, (.t 18)), (3, (.t 19)), (4, (.t 21)), (5, (.c (.v false (.int .i64 0))))], none⟩,
            ⟨some 23, .call 378 [0] [(.t 17), (.t 22)], none⟩,
            ⟨some 24, .bsl 1 [.int .i64 0] 1 [(0, (.t 23))], none⟩,
            ⟨some 25, .app 1 8 (.t 16) (.t 24), none⟩,
            ⟨some 5, .mv (.t 25), none⟩] none))
         (.reg [0, 4, 5, 6] [] [
           ⟨some 14, .mv (.t 6), none⟩,
           ⟨some 15, .bin .sub (.t 14) (.c (.v false (.int .i64 1))), none⟩,
           ⟨some 6, .mv (.t 15), none⟩] none))

def pb365 : PC :=
.seq (.reg [0] [] [
   ⟨some 2, .mv (.c (.nl 1)), none⟩,
   ⟨some 3, .mv (.c (.v false (.int .i64 0))), none⟩] none)
 (.seq (.reg [0, 4] [(8, 4)] [
    ⟨some 7, .mv (.t 0), none⟩,
    ⟨some 8, .call 375 [0] [(.t 7), (.c (.v false (.int .i64 5)))], none⟩,
    ⟨some 4, .mv (.t 8), none⟩] none)
  (.seq (.reg [0, 4, 5] [(9, 5)] [
     ⟨some 9, .bsl 1 [] 0 [], none⟩,
     ⟨some 5, .mv (.t 9), none⟩] none)
   (.seq (.seq (.reg [0, 4, 5, 6] [(11, 6)] [
       ⟨some 10, .mv (.t 0), none⟩,
       ⟨some 11, .call 375 [0] [(.t 10), (.c (.v false (.int .i64 5)))], none⟩,
       ⟨some 6, .mv (.t 11), none⟩] none)
     (.blk 0 (.loop pl365_0)))
    (.seq (.reg [0, 2, 3, 4, 5] [] [
       ⟨some 26, .mv (.t 5), none⟩,
       ⟨some 27, .mv (.t 4), none⟩,
       ⟨some 2, .mv (.t 26), none⟩,
       ⟨some 3, .mv (.t 27), none⟩] none)
     (.ret)))))

def pf365 : PF := ⟨[.s 2, .s 3], [0], pb365⟩

-- loop.example/g00496/spec.l17Ripe
def pb366 : PC :=
.seq (.reg [1, 2] [] [
   ⟨some 2, .box 3 (.t 0), none⟩,
   ⟨some 4, .mv (.c (.v false (.bool false))), none⟩] none)
 (.seq (.reg [4] [] [
    ⟨some 5, .mv (.t 1), none⟩,
    ⟨some 6, .bin .geq (.t 5) (.c (.v false (.int .i64 2))), none⟩,
    ⟨some 7, .mv (.t 6), none⟩,
    ⟨some 8, .fad (.t 2) 2, some (7, true)⟩,
    ⟨some 9, .ld false 1 (.t 8), some (7, true)⟩,
    ⟨some 10, .mv (.t 1), some (7, true)⟩,
    ⟨some 11, .bin .sub (.t 10) (.c (.v false (.int .i64 2))), some (7, true)⟩,
    ⟨some 12, .bin .leq (.t 9) (.t 11), some (7, true)⟩,
    ⟨some 13, .pick (.t 7) (.t 12) (.c (.v false (.bool false))), none⟩,
    ⟨some 4, .mv (.t 13), none⟩] none)
  (.ret))

def pf366 : PF := ⟨[.s 4], [], pb366⟩

-- loop.example/g00496/spec.l1Below
def pb375 : PC :=
.seq (.reg [0, 1] [] [
   ⟨some 4, .mv (.c (.v false (.int .i64 0))), none⟩] none)
 (.seq (.seq (.reg [0, 1, 9] [] [
     ⟨some 8, .mv (.t 1), none⟩,
     ⟨some 9, .bin .leq (.t 8) (.c (.v false (.int .i64 0))), none⟩] none)
   (.cond (.t 9) (.seq (.reg [0, 4] [] [
       ⟨some 4, .mv (.c (.v false (.int .i64 0))), none⟩] none)
     (.ret))
    (.skip)))
  (.seq (.seq (.reg [0, 1, 11] [] [
      ⟨some 10, .mv (.t 1), none⟩,
      ⟨some 11, .bin .leq (.t 10) (.c (.v false (.int .i64 256))), none⟩] none)
    (.cond (.t 11) (.seq (.reg [0, 4] [] [
        ⟨some 12, .mv (.t 0), none⟩,
        ⟨some 13, .call 376 [0] [(.t 12)], none⟩,
        ⟨some 14, .mv (.t 1), none⟩,
        ⟨some 15, .bin .rem (.t 13) (.t 14), none⟩,
        ⟨some 4, .mv (.t 15), none⟩] none)
      (.ret))
     (.skip)))
   (.seq (.reg [0, 1, 5] [(17, 5)] [
      ⟨some 16, .mv (.t 0), none⟩,
      ⟨some 17, .call 376 [0] [(.t 16)], none⟩,
      ⟨some 5, .mv (.t 17), none⟩] none)
    (.seq (.reg [0, 1, 5, 6] [(19, 6)] [
       ⟨some 18, .mv (.t 0), none⟩,
       ⟨some 19, .call 376 [0] [(.t 18)], none⟩,
       ⟨some 6, .mv (.t 19), none⟩] none)
     (.seq (.reg [0, 1, 5, 6, 7] [(21, 7)] [
        ⟨some 20, .mv (.t 0), none⟩,
        ⟨some 21, .call 376 [0] [(.t 20)], none⟩,
        ⟨some 7, .mv (.t 21), none⟩] none)
      (.seq (.reg [0, 4] [] [
         ⟨some 22, .mv (.t 5), none⟩,
         ⟨some 23, .bin .mul (.t 22) (.c (.v false (.int .i64 65536))), none⟩,
         ⟨some 24, .mv (.t 6), none⟩,
         ⟨some 25, .bin .mul (.t 24) (.c (.v false (.int .i64 256))), none⟩,
         ⟨some 26, .bin .add (.t 23) (.t 25), none⟩,
         ⟨some 27, .mv (.t 7), none⟩,
         ⟨some 28, .bin .add (.t 26) (.t 27), none⟩,
         ⟨some 29, .mv (.t 1), none⟩,
         ⟨some 30, .bin .rem (.t 28) (.t 29), none⟩,
         ⟨some 4, .mv (.t 30), none⟩] none)
       (.ret)))))))

def pf375 : PF := ⟨[.s 4], [0], pb375⟩

-- loop.example/g00496/spec.l1Byte
def pb376 : PC :=
.seq (.reg [0] [] [
   ⟨some 2, .mv (.c (.v false (.int .i64 0))), none⟩] none)
 (.seq (.reg [0] [] [
    ⟨some 4, .mv (.t 0), none⟩,
    ⟨some 5, .mv (.t 0), none⟩,
    ⟨some 6, .nck (.t 5), none⟩,
    ⟨some 7, .fad (.t 6) 2, none⟩,
    ⟨some 8, .ld false 1 (.t 7), none⟩,
    ⟨some 9, .bin .mul (.t 8) (.c (.v false (.int .i64 6364136223846793005))), none⟩,
    ⟨some 10, .bin .add (.t 9) (.c (.v false (.int .i64 1442695040888963407))), none⟩,
    ⟨some 11, .nck (.t 4), none⟩,
    ⟨some 12, .fad (.t 11) 2, none⟩,
    ⟨none, .st 1 (.t 12) (.t 10), none⟩] none)
  (.seq (.reg [0, 3] [] [
     ⟨some 13, .mv (.t 0), none⟩,
     ⟨some 14, .nck (.t 13), none⟩,
     ⟨some 15, .fad (.t 14) 2, none⟩,
     ⟨some 16, .ld false 1 (.t 15), none⟩,
     ⟨some 17, .bin .shr (.t 16) (.c (.v false (.int .u64 33))), none⟩,
     ⟨some 18, .mv (.t 0), none⟩,
     ⟨some 19, .nck (.t 18), none⟩,
     ⟨some 20, .fad (.t 19) 2, none⟩,
     ⟨some 21, .ld false 1 (.t 20), none⟩,
     ⟨some 22, .bin .shr (.t 21) (.c (.v false (.int .u64 47))), none⟩,
     ⟨some 23, .bin .xor (.t 17) (.t 22), none⟩,
     ⟨some 24, .bin .and (.t 23) (.c (.v false (.int .i64 255))), none⟩,
     ⟨some 3, .mv (.t 24), none⟩] (some []))
   (.seq (.seq (.reg [0, 3, 34] [] [
       ⟨some 25, .mv (.t 0), none⟩,
       ⟨some 26, .nck (.t 25), none⟩,
       ⟨some 27, .fad (.t 26) 1, none⟩,
       ⟨some 28, .ld false 1 (.t 27), none⟩,
       ⟨some 29, .mv (.t 0), none⟩,
       ⟨some 30, .nck (.t 29), none⟩,
       ⟨some 31, .fad (.t 30) 0, none⟩,
       ⟨some 32, .ld false 1 (.t 31), none⟩,
       ⟨some 33, .len (.t 32), none⟩,
       ⟨some 34, .bin .lss (.t 28) (.t 33), none⟩] (some []))
     (.cond (.t 34) (.seq (.reg [0, 3] [] [
         ⟨some 35, .mv (.t 3), none⟩,
         ⟨some 36, .mv (.t 0), none⟩,
         ⟨some 37, .nck (.t 36), none⟩,
         ⟨some 38, .fad (.t 37) 0, none⟩,
         ⟨some 39, .ld false 1 (.t 38), none⟩,
         ⟨some 40, .mv (.t 0), none⟩,
         ⟨some 41, .nck (.t 40), none⟩,
         ⟨some 42, .fad (.t 41) 1, none⟩,
         ⟨some 43, .ld false 1 (.t 42), none⟩,
         ⟨some 44, .iad 1 (.t 39) (.t 43), none⟩,
         ⟨some 45, .ld false 1 (.t 44), none⟩,
         ⟨some 46, .cvi .i64 (.t 45), none⟩,
         ⟨some 47, .bin .add (.t 35) (.t 46), none⟩,
         ⟨some 48, .bin .and (.t 47) (.c (.v false (.int .i64 255))), none⟩,
         ⟨some 3, .mv (.t 48), none⟩] (some []))
       (.reg [0, 3] [] [
         ⟨some 49, .mv (.t 0), none⟩,
         ⟨some 50, .mv (.t 0), none⟩,
         ⟨some 51, .nck (.t 50), none⟩,
         ⟨some 52, .fad (.t 51) 1, none⟩,
         ⟨some 53, .ld false 1 (.t 52), none⟩,
         ⟨some 54, .bin .add (.t 53) (.c (.v false (.int .i64 1))), none⟩,
         ⟨some 55, .nck (.t 49), none⟩,
         ⟨some 56, .fad (.t 55) 1, none⟩,
         ⟨none, .st 1 (.t 56) (.t 54), none⟩] none))
      (.skip)))
    (.seq (.reg [0, 2] [] [
       ⟨some 57, .mv (.t 3), none⟩,
       ⟨some 2, .mv (.t 57), none⟩] none)
     (.ret)))))

def pf376 : PF := ⟨[.s 2], [0], pb376⟩

-- loop.example/g00496/spec.l1In
def pb377 : PC :=
.seq (.reg [0, 1, 2] [] [
   ⟨some 6, .mv (.c (.v false (.bool false))), none⟩] none)
 (.seq (.reg [6] [] [
    ⟨some 7, .mv (.t 0), none⟩,
    ⟨some 8, .mv (.t 1), none⟩,
    ⟨some 9, .bin .geq (.t 7) (.t 8), none⟩,
    ⟨some 10, .mv (.t 9), none⟩,
    ⟨some 11, .mv (.t 0), some (10, true)⟩,
    ⟨some 12, .mv (.t 2), some (10, true)⟩,
    ⟨some 13, .bin .leq (.t 11) (.t 12), some (10, true)⟩,
    ⟨some 14, .pick (.t 10) (.t 13) (.c (.v false (.bool false))), none⟩,
    ⟨some 6, .mv (.t 14), none⟩] none)
  (.ret))

def pf377 : PF := ⟨[.s 6], [], pb377⟩

-- loop.example/g00496/spec.l1Int
def pb378 : PC :=
.seq (.reg [0, 1] [] [
   ⟨some 4, .mv (.c (.v false (.int .i64 0))), none⟩] none)
 (.seq (.reg [0, 4] [(9, 4)] [
    ⟨some 5, .mv (.t 1), none⟩,
    ⟨some 6, .mv (.t 0), none⟩,
    ⟨some 7, .mv (.t 1), none⟩,
    ⟨some 8, .len (.t 7), none⟩,
    ⟨some 9, .call 375 [0] [(.t 6), (.t 8)], none⟩,
    ⟨some 10, .iad 1 (.t 5) (.t 9), none⟩,
    ⟨some 11, .ld false 1 (.t 10), none⟩,
    ⟨some 4, .mv (.t 11), none⟩] none)
  (.ret))

def pf378 : PF := ⟨[.s 4], [0], pb378⟩

-- loop.example/g00496/spec.l1New
def pl379_0 : PC :=
.seq (.seq (.reg [0, 3, 4, 15] [] [
          ⟨some 8, .mv (.t 4), none⟩,
          ⟨some 9, .mv (.t 0), none⟩,
          ⟨some 10, .len (.t 9), none⟩,
          ⟨some 11, .bin .lss (.t 8) (.t 10), none⟩,
          ⟨some 12, .mv (.t 11), none⟩,
          ⟨some 13, .mv (.t 4), some (12, true)⟩,
          ⟨some 14, .bin .lss (.t 13) (.c (.v false (.int .i64 4000))), some (12, true)⟩,
          ⟨some 15, .pick (.t 12) (.t 14) (.c (.v false (.bool false))), none⟩] none)
        (.cond (.t 15) (.skip)
         (.exit 0)))
       (.seq (.blk 1 (.reg [0, 3, 4] [] [
           ⟨some 18, .mv (.t 3), none⟩,
           ⟨some 19, .bin .mul (.t 18) (.c (.v false (.int .i64 137))), none⟩,
           ⟨some 20, .mv (.t 0), none⟩,
           ⟨some 21, .mv (.t 4), none⟩,
           ⟨some 22, .iad 1 (.t 20) (.t 21), none⟩,
           ⟨some 23, .ld false 1 (.t 22), none⟩,
           ⟨some 24, .cvi .i64 (.t 23), none⟩,
           ⟨some 25, .bin .add (.t 19) (.t 24), none⟩,
           ⟨some 26, .bin .add (.t 25) (.c (.v false (.int .i64 11))), none⟩,
           ⟨some 27, .bin .and (.t 26) (.c (.v false (.int .i64 1073741823))), none⟩,
           ⟨some 3, .mv (.t 27), none⟩] none))
        (.reg [0, 3, 4] [] [
          ⟨some 16, .mv (.t 4), none⟩,
          ⟨some 17, .bin .add (.t 16) (.c (.v false (.int .i64 1))), none⟩,
          ⟨some 4, .mv (.t 17), none⟩] none))

def pb379 : PC :=
.seq (.reg [0] [] [
   ⟨some 2, .mv (.c (.un)), none⟩] none)
 (.seq (.reg [0, 3] [] [
    ⟨some 5, .mv (.t 0), none⟩,
    ⟨some 6, .len (.t 5), none⟩,
    ⟨some 7, .bin .add (.c (.v false (.int .i64 154242))) (.t 6), none⟩,
    ⟨some 3, .mv (.t 7), none⟩] none)
  (.seq (.seq (.reg [0, 3, 4] [] [
      ⟨some 4, .mv (.c (.v false (.int .i64 0))), none⟩] none)
    (.blk 0 (.loop pl379_0)))
   (.seq (.reg [2] [(31, 2)] [
      ⟨some 28, .mv (.t 0), none⟩,
      ⟨some 29, .mv (.t 3), none⟩,
      ⟨some 30, .build [(.nl 1), (.v false (.int .i64 0)), (.v false (.int .i64 0))] [(0, 1, (.t 28)), (2, 1, (.t 29))], none⟩,
      ⟨some 31, .box 3 (.t 30), none⟩,
      ⟨some 2, .mv (.t 31), none⟩] none)
    (.ret))))

def pf379 : PF := ⟨[.s 2], [], pb379⟩

-- loop.example/g00496/spec.l1Once
def pb382 : PC :=
.seq (.reg [0, 1] [] [
   ⟨some 4, .mv (.c (.v false (.bool false))), none⟩] none)
 (.seq (.reg [0, 4] [] [
    ⟨some 5, .mv (.t 0), none⟩,
    ⟨some 6, .mv (.t 1), none⟩,
    ⟨some 7, .call 375 [0] [(.t 5), (.t 6)], none⟩,
    ⟨some 8, .bin .eql (.t 7) (.c (.v false (.int .i64 0))), none⟩,
    ⟨some 4, .mv (.t 8), none⟩] none)
  (.ret))

def pf382 : PF := ⟨[.s 4], [0], pb382⟩

end Go.Proofs.Ytkgibccknlbiaaa.OM
