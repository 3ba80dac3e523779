/- The texts of the functions, as the own machine runs them. -/
import Derived.Test.YtphnbkhopedpgaaOMDef
set_option linter.all false
namespace Go.Proofs.Ytphnbkhopedpgaa.OM
set_option maxRecDepth 100000

-- loop.example/g00496/impl.OldestPin
def pl33_0 : PC :=
.seq (.reg [1, 5, 8, 9, 10, 11] [] [
         ⟨some 11, .bin .lss (.t 10) (.t 9), none⟩] none)
       (.seq (.cond (.t 11) (.skip)
         (.exit 0))
        (.seq (.blk 1 (.seq (.reg [1, 5, 7, 8, 9, 10] [] [
             ⟨some 12, .iad 1 (.t 8) (.t 10), none⟩,
             ⟨some 13, .ld false 1 (.t 12), none⟩,
             ⟨some 7, .mv (.t 13), none⟩] none)
           (.seq (.reg [1, 5, 7, 8, 9, 10, 24] [] [
              ⟨some 14, .mv (.t 7), none⟩,
              ⟨some 15, .bin .geq (.t 14) (.c (.v false (.int .i64 0))), none⟩,
              ⟨some 16, .mv (.t 15), none⟩,
              ⟨some 17, .mv (.t 5), some (16, true)⟩,
              ⟨some 18, .bin .lss (.t 17) (.c (.v false (.int .i64 0))), some (16, true)⟩,
              ⟨some 19, .mv (.t 18), some (16, true)⟩,
              ⟨some 20, .mv (.t 7), some (19, false)⟩,
              ⟨some 21, .mv (.t 5), some (19, false)⟩,
              ⟨some 22, .bin .lss (.t 20) (.t 21), some (19, false)⟩,
              ⟨some 23, .pick (.t 19) (.c (.v false (.bool true))) (.t 22), some (16, true)⟩,
              ⟨some 24, .pick (.t 16) (.t 23) (.c (.v false (.bool false))), none⟩] none)
            (.cond (.t 24) (.reg [1, 5, 8, 9, 10] [] [
               ⟨some 25, .mv (.t 7), none⟩,
               ⟨some 5, .mv (.t 25), none⟩] none)
             (.skip)))))
         (.reg [1, 5, 8, 9, 10] [] [
           ⟨some 26, .bin .add (.t 10) (.c (.v false (.int .i64 1))), none⟩,
           ⟨some 10, .mv (.t 26), none⟩] none)))

def pb33 : PC :=
.seq (.reg [0, 1] [] [
   ⟨some 4, .mv (.c (.v false (.int .i64 0))), none⟩] none)
 (.seq (.reg [0, 1, 5] [] [
    ⟨some 5, .mv (.c (.v false (.int .i64 (-1)))), none⟩] none)
  (.seq (.seq (.reg [1, 5, 8, 9, 10] [] [
      ⟨some 8, .mv (.t 0), none⟩,
      ⟨some 9, .len (.t 8), none⟩,
      ⟨some 10, .mv (.c (.v false (.int .i64 0))), none⟩] none)
    (.blk 0 (.loop pl33_0)))
   (.seq (.seq (.reg [1, 5, 28] [] [
       ⟨some 27, .mv (.t 5), none⟩,
       ⟨some 28, .bin .lss (.t 27) (.c (.v false (.int .i64 0))), none⟩] none)
     (.cond (.t 28) (.seq (.reg [4] [] [
         ⟨some 29, .mv (.t 1), none⟩,
         ⟨some 4, .mv (.t 29), none⟩] none)
       (.ret))
      (.skip)))
    (.seq (.reg [4] [] [
       ⟨some 30, .mv (.t 5), none⟩,
       ⟨some 4, .mv (.t 30), none⟩] none)
     (.ret)))))

def pf33 : PF := ⟨[.s 4], [], pb33⟩

-- loop.example/g00496/laws.FnExactOldestPin
def pb114 : PC :=
.seq (.reg [0, 1] [] [
   ⟨some 4, .mv (.c (.v false (.bool false))), none⟩] none)
 (.seq (.seq (.reg [0, 1, 10] [] [
     ⟨some 8, .mv (.t 0), none⟩,
     ⟨some 9, .len (.t 8), none⟩,
     ⟨some 10, .bin .gtr (.t 9) (.c (.v false (.int .i64 1048576))), none⟩] none)
   (.cond (.t 10) (.seq (.reg [4] [] [
       ⟨some 4, .mv (.c (.v false (.bool true))), none⟩] none)
     (.ret))
    (.skip)))
  (.seq (.reg [0, 1, 5] [(14, 5)] [
     ⟨some 11, .mv (.t 0), none⟩,
     ⟨some 12, .call 244 [] [(.t 11)], none⟩,
     ⟨some 13, .mv (.t 1), none⟩,
     ⟨some 14, .call 314 [] [(.t 12), (.t 13)], none⟩,
     ⟨some 5, .mv (.t 14), none⟩] none)
   (.seq (.reg [0, 1, 5, 6] [(16, 6)] [
      ⟨some 15, .mv (.t 0), none⟩,
      ⟨some 16, .call 244 [] [(.t 15)], none⟩,
      ⟨some 6, .mv (.t 16), none⟩] none)
    (.seq (.reg [0, 5, 6, 7] [(19, 7)] [
       ⟨some 17, .mv (.t 6), none⟩,
       ⟨some 18, .mv (.t 1), none⟩,
       ⟨some 19, .call 33 [] [(.t 17), (.t 18)], none⟩,
       ⟨some 7, .mv (.t 19), none⟩] none)
     (.seq (.seq (.reg [0, 6, 22] [] [
         ⟨some 20, .mv (.t 7), none⟩,
         ⟨some 21, .mv (.t 5), none⟩,
         ⟨some 22, .bin .neq (.t 20) (.t 21), none⟩] none)
       (.cond (.t 22) (.seq (.reg [4] [] [
           ⟨some 4, .mv (.c (.v false (.bool false))), none⟩] none)
         (.ret))
        (.skip)))
      (.seq (.seq (.reg [27] [] [
          ⟨some 23, .mv (.t 6), none⟩,
          ⟨some 24, .mv (.t 0), none⟩,
          ⟨some 25, .call 244 [] [(.t 24)], none⟩,
          ⟨some 26, .call 152 [] [(.t 23), (.t 25)], none⟩,
          ⟨some 27, .un .not (.t 26), none⟩] none)
        (.cond (.t 27) (.seq (.reg [4] [] [
            ⟨some 4, .mv (.c (.v false (.bool false))), none⟩] none)
          (.ret))
         (.skip)))
       (.seq (.reg [4] [] [
          ⟨some 4, .mv (.c (.v false (.bool true))), none⟩] none)
        (.ret))))))))

def pf114 : PF := ⟨[.s 4], [], pb114⟩

-- loop.example/g00496/laws.eqIntS
def pl152_0 : PC :=
.seq (.seq (.reg [0, 1, 5, 14] [] [
          ⟨some 11, .mv (.t 5), none⟩,
          ⟨some 12, .mv (.t 0), none⟩,
          ⟨some 13, .len (.t 12), none⟩,
          ⟨some 14, .bin .lss (.t 11) (.t 13), none⟩] none)
        (.cond (.t 14) (.skip)
         (.exit 0)))
       (.seq (.blk 1 (.seq (.reg [0, 1, 5, 25] [] [
            ⟨some 17, .mv (.t 0), none⟩,
            ⟨some 18, .mv (.t 5), none⟩,
            ⟨some 19, .iad 1 (.t 17) (.t 18), none⟩,
            ⟨some 20, .ld false 1 (.t 19), none⟩,
            ⟨some 21, .mv (.t 1), none⟩,
            ⟨some 22, .mv (.t 5), none⟩,
            ⟨some 23, .iad 1 (.t 21) (.t 22), none⟩,
            ⟨some 24, .ld false 1 (.t 23), none⟩,
            ⟨some 25, .bin .neq (.t 20) (.t 24), none⟩] (some []))
          (.cond (.t 25) (.seq (.reg [4] [] [
              ⟨some 4, .mv (.c (.v false (.bool false))), none⟩] none)
            (.ret))
           (.skip))))
        (.reg [0, 1, 5] [] [
          ⟨some 15, .mv (.t 5), none⟩,
          ⟨some 16, .bin .add (.t 15) (.c (.v false (.int .i64 1))), none⟩,
          ⟨some 5, .mv (.t 16), none⟩] none))

def pb152 : PC :=
.seq (.reg [0, 1] [] [
   ⟨some 4, .mv (.c (.v false (.bool false))), none⟩] none)
 (.seq (.seq (.reg [0, 1, 10] [] [
     ⟨some 6, .mv (.t 0), none⟩,
     ⟨some 7, .len (.t 6), none⟩,
     ⟨some 8, .mv (.t 1), none⟩,
     ⟨some 9, .len (.t 8), none⟩,
     ⟨some 10, .bin .neq (.t 7) (.t 9), none⟩] none)
   (.cond (.t 10) (.seq (.reg [4] [] [
       ⟨some 4, .mv (.c (.v false (.bool false))), none⟩] none)
     (.ret))
    (.skip)))
  (.seq (.seq (.reg [0, 1, 5] [] [
      ⟨some 5, .mv (.c (.v false (.int .i64 0))), none⟩] none)
    (.blk 0 (.loop pl152_0)))
   (.seq (.reg [4] [] [
      ⟨some 4, .mv (.c (.v false (.bool true))), none⟩] none)
    (.ret))))

def pf152 : PF := ⟨[.s 4], [], pb152⟩

-- loop.example/g00496/laws.toIntS
def pl244_0 : PC :=
.seq (.seq (.reg [0, 3, 4, 11] [] [
          ⟨some 8, .mv (.t 4), none⟩,
          ⟨some 9, .mv (.t 0), none⟩,
          ⟨some 10, .len (.t 9), none⟩,
          ⟨some 11, .bin .lss (.t 8) (.t 10), none⟩] none)
        (.cond (.t 11) (.skip)
         (.exit 0)))
       (.seq (.blk 1 (.reg [0, 3, 4] [] [
           ⟨some 14, .mv (.t 3), none⟩,
           ⟨some 15, .mv (.t 4), none⟩,
           ⟨some 16, .mv (.t 0), none⟩,
           ⟨some 17, .mv (.t 4), none⟩,
           ⟨some 18, .iad 1 (.t 16) (.t 17), none⟩,
           ⟨some 19, .ld false 1 (.t 18), none⟩,
           ⟨some 20, .iad 1 (.t 14) (.t 15), none⟩,
           ⟨none, .st 1 (.t 20) (.t 19), none⟩] none))
        (.reg [0, 3, 4] [] [
          ⟨some 12, .mv (.t 4), none⟩,
          ⟨some 13, .bin .add (.t 12) (.c (.v false (.int .i64 1))), none⟩,
          ⟨some 4, .mv (.t 13), none⟩] none))

def pb244 : PC :=
.seq (.reg [0] [] [
   ⟨some 2, .mv (.c (.nl 1)), none⟩] none)
 (.seq (.reg [0, 3] [(7, 3)] [
    ⟨some 5, .mv (.t 0), none⟩,
    ⟨some 6, .len (.t 5), none⟩,
    ⟨some 7, .mks 1 8 [.int .i64 0] (.t 6), none⟩,
    ⟨some 3, .mv (.t 7), none⟩] none)
  (.seq (.seq (.reg [0, 3, 4] [] [
      ⟨some 4, .mv (.c (.v false (.int .i64 0))), none⟩] none)
    (.blk 0 (.loop pl244_0)))
   (.seq (.reg [2, 3] [] [
      ⟨some 21, .mv (.t 3), none⟩,
      ⟨some 2, .mv (.t 21), none⟩] none)
    (.ret))))

def pf244 : PF := ⟨[.s 2], [], pb244⟩

-- loop.example/g00496/spec.OldestPin
def pl314_0 : PC :=
.seq (.seq (.reg [0, 5, 6, 7, 12] [] [
           ⟨some 9, .mv (.t 7), none⟩,
           ⟨some 10, .mv (.t 0), none⟩,
           ⟨some 11, .len (.t 10), none⟩,
           ⟨some 12, .bin .lss (.t 9) (.t 11), none⟩] none)
         (.cond (.t 12) (.skip)
          (.exit 0)))
        (.seq (.blk 1 (.seq (.reg [0, 5, 6, 7, 31] [] [
             ⟨some 15, .mv (.t 0), none⟩,
             ⟨some 16, .mv (.t 7), none⟩,
             ⟨some 17, .iad 1 (.t 15) (.t 16), none⟩,
             ⟨some 18, .ld false 1 (.t 17), none⟩,
             ⟨some 19, .bin .geq (.t 18) (.c (.v false (.int .i64 0))), none⟩,
             ⟨some 20, .mv (.t 19), none⟩,
             ⟨some 21, .mv (.t 6), some (20, true)⟩,
             ⟨some 22, .un .not (.t 21), some (20, true)⟩,
             ⟨some 23, .mv (.t 22), some (20, true)⟩,
             ⟨some 24, .mv (.t 0), some (23, false)⟩,
             ⟨some 25, .mv (.t 7), some (23, false)⟩,
             ⟨some 26, .iad 1 (.t 24) (.t 25), some (23, false)⟩,
             ⟨some 27, .ld false 1 (.t 26), some (23, false)⟩,
             ⟨some 28, .mv (.t 5), some (23, false)⟩,
             ⟨some 29, .bin .lss (.t 27) (.t 28), some (23, false)⟩,
             ⟨some 30, .pick (.t 23) (.c (.v false (.bool true))) (.t 29), some (20, true)⟩,
             ⟨some 31, .pick (.t 20) (.t 30) (.c (.v false (.bool false))), none⟩] none)
           (.cond (.t 31) (.seq (.reg [0, 5, 7] [] [
               ⟨some 32, .mv (.t 0), none⟩,
               ⟨some 33, .mv (.t 7), none⟩,
               ⟨some 34, .iad 1 (.t 32) (.t 33), none⟩,
               ⟨some 35, .ld false 1 (.t 34), none⟩,
               ⟨some 5, .mv (.t 35), none⟩] none)
             (.reg [0, 5, 6, 7] [] [
               ⟨some 6, .mv (.c (.v false (.bool true))), none⟩] none))
            (.skip))))
         (.reg [0, 5, 6, 7] [] [
           ⟨some 13, .mv (.t 7), none⟩,
           ⟨some 14, .bin .add (.t 13) (.c (.v false (.int .i64 1))), none⟩,
           ⟨some 7, .mv (.t 14), none⟩] none))

def pb314 : PC :=
.seq (.reg [0, 1] [] [
   ⟨some 4, .mv (.c (.v false (.int .i64 0))), none⟩] none)
 (.seq (.reg [0, 5] [] [
    ⟨some 8, .mv (.t 1), none⟩,
    ⟨some 5, .mv (.t 8), none⟩] none)
  (.seq (.reg [0, 5, 6] [] [
     ⟨some 6, .mv (.c (.v false (.bool false))), none⟩] none)
   (.seq (.seq (.reg [0, 5, 6, 7] [] [
       ⟨some 7, .mv (.c (.v false (.int .i64 0))), none⟩] none)
     (.blk 0 (.loop pl314_0)))
    (.seq (.reg [4] [] [
       ⟨some 36, .mv (.t 5), none⟩,
       ⟨some 4, .mv (.t 36), none⟩] none)
     (.ret)))))

def pf314 : PF := ⟨[.s 4], [], pb314⟩

end Go.Proofs.Ytphnbkhopedpgaa.OM
