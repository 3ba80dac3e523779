/- The texts of the functions, as the own machine runs them. -/
import Derived.Test.YtphnbkhopedpgaaOMDef
set_option linter.all false
namespace Go.Proofs.Ytphnbkhopedpgaa.OM
set_option maxRecDepth 100000

-- loop.example/g00496/impl.Waits
def pl61_0 : PC :=
.seq (.reg [1, 5, 8, 9, 10, 11] [] [
         ⟨some 11, .bin .lss (.t 10) (.t 9), none⟩] none)
       (.seq (.cond (.t 11) (.skip)
         (.exit 0))
        (.seq (.blk 1 (.seq (.reg [1, 5, 7, 8, 9, 10] [] [
             ⟨some 12, .iad 3 (.t 8) (.t 10), none⟩,
             ⟨some 13, .ld true 3 (.t 12), none⟩,
             ⟨some 7, .alloc [(.v false (.int .i64 0)), (.v false (.int .i64 0)), (.v false (.int .i64 0))], none⟩,
             ⟨none, .st 3 (.t 7) (.t 13), none⟩] none)
           (.seq (.reg [1, 5, 8, 9, 10, 17] [] [
              ⟨some 14, .ld true 3 (.t 7), none⟩,
              ⟨some 15, .mv (.t 1), none⟩,
              ⟨some 16, .call 80 [] [(.t 14), (.t 15)], none⟩,
              ⟨some 17, .un .not (.t 16), none⟩] none)
            (.cond (.t 17) (.reg [1, 5, 8, 9, 10] [] [
               ⟨some 18, .mv (.t 5), none⟩,
               ⟨some 19, .bin .add (.t 18) (.c (.v false (.int .i64 1))), none⟩,
               ⟨some 5, .mv (.t 19), none⟩] none)
             (.skip)))))
         (.reg [1, 5, 8, 9, 10] [] [
           ⟨some 20, .bin .add (.t 10) (.c (.v false (.int .i64 1))), none⟩,
           ⟨some 10, .mv (.t 20), none⟩] none)))

def pb61 : PC :=
.seq (.reg [0, 1] [] [
   ⟨some 4, .mv (.c (.v false (.int .i64 0))), none⟩] none)
 (.seq (.reg [0, 1, 5] [] [
    ⟨some 5, .mv (.c (.v false (.int .i64 0))), none⟩] none)
  (.seq (.seq (.reg [1, 5, 8, 9, 10] [] [
      ⟨some 8, .mv (.t 0), none⟩,
      ⟨some 9, .len (.t 8), none⟩,
      ⟨some 10, .mv (.c (.v false (.int .i64 0))), none⟩] none)
    (.blk 0 (.loop pl61_0)))
   (.seq (.reg [4] [] [
      ⟨some 21, .mv (.t 5), none⟩,
      ⟨some 4, .mv (.t 21), none⟩] none)
    (.ret))))

def pf61 : PF := ⟨[.s 4], [], pb61⟩

-- loop.example/g00496/impl.isRipe
def pb80 : PC :=
.seq (.reg [1, 2] [] [
   ⟨some 2, .box 3 (.t 0), none⟩,
   ⟨some 4, .mv (.c (.v false (.bool false))), none⟩] none)
 (.seq (.reg [4] [] [
    ⟨some 5, .mv (.t 1), none⟩,
    ⟨some 6, .bin .geq (.t 5) (.c (.v false (.int .i64 2))), none⟩,
    ⟨some 7, .mv (.t 6), none⟩,
    ⟨some 8, .fad (.t 2) 2, some (7, true)⟩,
    ⟨some 9, .ld false 1 (.t 8), some (7, true)⟩,
    ⟨some 10, .mv (.t 1), some (7, true)⟩,
    ⟨some 11, .bin .sub (.t 10) (.c (.v false (.int .i64 2))), some (7, true)⟩,
    ⟨some 12, .bin .leq (.t 9) (.t 11), some (7, true)⟩,
    ⟨some 13, .pick (.t 7) (.t 12) (.c (.v false (.bool false))), none⟩,
    ⟨some 4, .mv (.t 13), none⟩] none)
  (.ret))

def pf80 : PF := ⟨[.s 4], [], pb80⟩

-- loop.example/g00496/laws.FnExactWaits
def pb134 : PC :=
.seq (.reg [0, 1] [] [
   ⟨some 4, .mv (.c (.v false (.bool false))), none⟩] none)
 (.seq (.reg [0, 1, 5] [] [
    ⟨some 5, .mv (.c (.v false (.int .i64 1048576))), none⟩] none)
  (.seq (.reg [0, 1, 5] [(11, 5)] [
     ⟨some 9, .mv (.t 0), none⟩,
     ⟨some 10, .mv (.t 5), none⟩,
     ⟨some 11, .call 215 [] [(.t 9), (.t 10)], none⟩,
     ⟨some 5, .mv (.t 11), none⟩] none)
   (.seq (.seq (.reg [0, 1, 13] [] [
       ⟨some 12, .mv (.t 5), none⟩,
       ⟨some 13, .bin .lss (.t 12) (.c (.v false (.int .i64 0))), none⟩] none)
     (.cond (.t 13) (.seq (.reg [4] [] [
         ⟨some 4, .mv (.c (.v false (.bool true))), none⟩] none)
       (.ret))
      (.skip)))
    (.seq (.reg [0, 1, 6] [(17, 6)] [
       ⟨some 14, .mv (.t 0), none⟩,
       ⟨some 15, .call 240 [] [(.t 14)], none⟩,
       ⟨some 16, .mv (.t 1), none⟩,
       ⟨some 17, .call 342 [] [(.t 15), (.t 16)], none⟩,
       ⟨some 6, .mv (.t 17), none⟩] none)
     (.seq (.reg [0, 1, 6, 7] [(19, 7)] [
        ⟨some 18, .mv (.t 0), none⟩,
        ⟨some 19, .call 240 [] [(.t 18)], none⟩,
        ⟨some 7, .mv (.t 19), none⟩] none)
      (.seq (.reg [0, 6, 7, 8] [(22, 8)] [
         ⟨some 20, .mv (.t 7), none⟩,
         ⟨some 21, .mv (.t 1), none⟩,
         ⟨some 22, .call 61 [] [(.t 20), (.t 21)], none⟩,
         ⟨some 8, .mv (.t 22), none⟩] none)
       (.seq (.seq (.reg [0, 7, 25] [] [
           ⟨some 23, .mv (.t 8), none⟩,
           ⟨some 24, .mv (.t 6), none⟩,
           ⟨some 25, .bin .neq (.t 23) (.t 24), none⟩] none)
         (.cond (.t 25) (.seq (.reg [4] [] [
             ⟨some 4, .mv (.c (.v false (.bool false))), none⟩] none)
           (.ret))
          (.skip)))
        (.seq (.seq (.reg [30] [] [
            ⟨some 26, .mv (.t 7), none⟩,
            ⟨some 27, .mv (.t 0), none⟩,
            ⟨some 28, .call 240 [] [(.t 27)], none⟩,
            ⟨some 29, .call 148 [] [(.t 26), (.t 28)], none⟩,
            ⟨some 30, .un .not (.t 29), none⟩] none)
          (.cond (.t 30) (.seq (.reg [4] [] [
              ⟨some 4, .mv (.c (.v false (.bool false))), none⟩] none)
            (.ret))
           (.skip)))
         (.seq (.reg [4] [] [
            ⟨some 4, .mv (.c (.v false (.bool true))), none⟩] none)
          (.ret))))))))))

def pf134 : PF := ⟨[.s 4], [], pb134⟩

-- loop.example/g00496/laws.eqDead
def pb147 : PC :=
.seq (.reg [2, 3] [] [
   ⟨some 2, .box 3 (.t 0), none⟩,
   ⟨some 3, .box 3 (.t 1), none⟩,
   ⟨some 4, .mv (.c (.v false (.bool false))), none⟩] none)
 (.seq (.seq (.reg [2, 3, 9] [] [
     ⟨some 5, .fad (.t 2) 0, none⟩,
     ⟨some 6, .ld false 1 (.t 5), none⟩,
     ⟨some 7, .fad (.t 3) 0, none⟩,
     ⟨some 8, .ld false 1 (.t 7), none⟩,
     ⟨some 9, .bin .neq (.t 6) (.t 8), none⟩] none)
   (.cond (.t 9) (.seq (.reg [4] [] [
       ⟨some 4, .mv (.c (.v false (.bool false))), none⟩] none)
     (.ret))
    (.skip)))
  (.seq (.seq (.reg [2, 3, 14] [] [
      ⟨some 10, .fad (.t 2) 1, none⟩,
      ⟨some 11, .ld false 1 (.t 10), none⟩,
      ⟨some 12, .fad (.t 3) 1, none⟩,
      ⟨some 13, .ld false 1 (.t 12), none⟩,
      ⟨some 14, .bin .neq (.t 11) (.t 13), none⟩] none)
    (.cond (.t 14) (.seq (.reg [4] [] [
        ⟨some 4, .mv (.c (.v false (.bool false))), none⟩] none)
      (.ret))
     (.skip)))
   (.seq (.seq (.reg [19] [] [
       ⟨some 15, .fad (.t 2) 2, none⟩,
       ⟨some 16, .ld false 1 (.t 15), none⟩,
       ⟨some 17, .fad (.t 3) 2, none⟩,
       ⟨some 18, .ld false 1 (.t 17), none⟩,
       ⟨some 19, .bin .neq (.t 16) (.t 18), none⟩] none)
     (.cond (.t 19) (.seq (.reg [4] [] [
         ⟨some 4, .mv (.c (.v false (.bool false))), none⟩] none)
       (.ret))
      (.skip)))
    (.seq (.reg [4] [] [
       ⟨some 4, .mv (.c (.v false (.bool true))), none⟩] none)
     (.ret)))))

def pf147 : PF := ⟨[.s 4], [], pb147⟩

-- loop.example/g00496/laws.eqDeadS
def pl148_0 : PC :=
.seq (.seq (.reg [0, 1, 5, 14] [] [
          ⟨some 11, .mv (.t 5), none⟩,
          ⟨some 12, .mv (.t 0), none⟩,
          ⟨some 13, .len (.t 12), none⟩,
          ⟨some 14, .bin .lss (.t 11) (.t 13), none⟩] none)
        (.cond (.t 14) (.skip)
         (.exit 0)))
       (.seq (.blk 1 (.seq (.reg [0, 1, 5, 26] [] [
            ⟨some 17, .mv (.t 0), none⟩,
            ⟨some 18, .mv (.t 5), none⟩,
            ⟨some 19, .iad 3 (.t 17) (.t 18), none⟩,
            ⟨some 20, .ld true 3 (.t 19), none⟩,
            ⟨some 21, .mv (.t 1), none⟩,
            ⟨some 22, .mv (.t 5), none⟩,
            ⟨some 23, .iad 3 (.t 21) (.t 22), none⟩,
            ⟨some 24, .ld true 3 (.t 23), none⟩,
            ⟨some 25, .call 147 [] [(.t 20), (.t 24)], none⟩,
            ⟨some 26, .un .not (.t 25), none⟩] (some []))
          (.cond (.t 26) (.seq (.reg [4] [] [
              ⟨some 4, .mv (.c (.v false (.bool false))), none⟩] none)
            (.ret))
           (.skip))))
        (.reg [0, 1, 5] [] [
          ⟨some 15, .mv (.t 5), none⟩,
          ⟨some 16, .bin .add (.t 15) (.c (.v false (.int .i64 1))), none⟩,
          ⟨some 5, .mv (.t 16), none⟩] none))

def pb148 : PC :=
.seq (.reg [0, 1] [] [
   ⟨some 4, .mv (.c (.v false (.bool false))), none⟩] none)
 (.seq (.seq (.reg [0, 1, 10] [] [
     ⟨some 6, .mv (.t 0), none⟩,
     ⟨some 7, .len (.t 6), none⟩,
     ⟨some 8, .mv (.t 1), none⟩,
     ⟨some 9, .len (.t 8), none⟩,
     ⟨some 10, .bin .neq (.t 7) (.t 9), none⟩] none)
   (.cond (.t 10) (.seq (.reg [4] [] [
       ⟨some 4, .mv (.c (.v false (.bool false))), none⟩] none)
     (.ret))
    (.skip)))
  (.seq (.seq (.reg [0, 1, 5] [] [
      ⟨some 5, .mv (.c (.v false (.int .i64 0))), none⟩] none)
    (.blk 0 (.loop pl148_0)))
   (.seq (.reg [4] [] [
      ⟨some 4, .mv (.c (.v false (.bool true))), none⟩] none)
    (.ret))))

def pf148 : PF := ⟨[.s 4], [], pb148⟩

-- loop.example/g00496/laws.szDeadS
def pb215 : PC :=
.seq (.reg [0, 1] [] [
   ⟨some 4, .mv (.c (.v false (.int .i64 0))), none⟩] none)
 (.seq (.reg [1] [] [
    ⟨some 5, .mv (.t 1), none⟩,
    ⟨some 6, .mv (.t 0), none⟩,
    ⟨some 7, .len (.t 6), none⟩,
    ⟨some 8, .bin .sub (.t 5) (.t 7), none⟩,
    ⟨some 1, .mv (.t 8), none⟩] none)
  (.seq (.seq (.reg [1, 10] [] [
      ⟨some 9, .mv (.t 1), none⟩,
      ⟨some 10, .bin .lss (.t 9) (.c (.v false (.int .i64 0))), none⟩] none)
    (.cond (.t 10) (.seq (.reg [4] [] [
        ⟨some 4, .mv (.c (.v false (.int .i64 (-1)))), none⟩] none)
      (.ret))
     (.skip)))
   (.seq (.reg [4] [] [
      ⟨some 11, .mv (.t 1), none⟩,
      ⟨some 4, .mv (.t 11), none⟩] none)
    (.ret))))

def pf215 : PF := ⟨[.s 4], [], pb215⟩

-- loop.example/g00496/laws.toDead
def pb239 : PC :=
.seq (.reg [1, 2] [] [
   ⟨some 1, .box 3 (.t 0), none⟩,
   ⟨some 2, .alloc [(.v false (.int .i64 0)), (.v false (.int .i64 0)), (.v false (.int .i64 0))], none⟩] none)
 (.seq (.reg [1, 2, 3] [] [
    ⟨some 3, .alloc [(.v false (.int .i64 0)), (.v false (.int .i64 0)), (.v false (.int .i64 0))], none⟩] none)
  (.seq (.reg [1, 2, 3] [] [
     ⟨some 4, .fad (.t 1) 0, none⟩,
     ⟨some 5, .ld false 1 (.t 4), none⟩,
     ⟨some 6, .fad (.t 3) 0, none⟩,
     ⟨none, .st 1 (.t 6) (.t 5), none⟩] none)
   (.seq (.reg [1, 2, 3] [] [
      ⟨some 7, .fad (.t 1) 1, none⟩,
      ⟨some 8, .ld false 1 (.t 7), none⟩,
      ⟨some 9, .fad (.t 3) 1, none⟩,
      ⟨none, .st 1 (.t 9) (.t 8), none⟩] none)
    (.seq (.reg [2, 3] [] [
       ⟨some 10, .fad (.t 1) 2, none⟩,
       ⟨some 11, .ld false 1 (.t 10), none⟩,
       ⟨some 12, .fad (.t 3) 2, none⟩,
       ⟨none, .st 1 (.t 12) (.t 11), none⟩] none)
     (.seq (.reg [2] [] [
        ⟨some 13, .ld true 3 (.t 3), none⟩,
        ⟨none, .st 3 (.t 2) (.t 13), none⟩] none)
      (.ret))))))

def pf239 : PF := ⟨[.b 2 3 true], [], pb239⟩

-- loop.example/g00496/laws.toDeadS
def pl240_0 : PC :=
.seq (.seq (.reg [0, 3, 4, 11] [] [
          ⟨some 8, .mv (.t 4), none⟩,
          ⟨some 9, .mv (.t 0), none⟩,
          ⟨some 10, .len (.t 9), none⟩,
          ⟨some 11, .bin .lss (.t 8) (.t 10), none⟩] none)
        (.cond (.t 11) (.skip)
         (.exit 0)))
       (.seq (.blk 1 (.reg [0, 3, 4] [] [
           ⟨some 14, .mv (.t 3), none⟩,
           ⟨some 15, .mv (.t 4), none⟩,
           ⟨some 16, .mv (.t 0), none⟩,
           ⟨some 17, .mv (.t 4), none⟩,
           ⟨some 18, .iad 3 (.t 16) (.t 17), none⟩,
           ⟨some 19, .ld true 3 (.t 18), none⟩,
           ⟨some 20, .call 239 [] [(.t 19)], none⟩,
           ⟨some 21, .iad 3 (.t 14) (.t 15), none⟩,
           ⟨none, .st 3 (.t 21) (.t 20), none⟩] none))
        (.reg [0, 3, 4] [] [
          ⟨some 12, .mv (.t 4), none⟩,
          ⟨some 13, .bin .add (.t 12) (.c (.v false (.int .i64 1))), none⟩,
          ⟨some 4, .mv (.t 13), none⟩] none))

def pb240 : PC :=
.seq (.reg [0] [] [
   ⟨some 2, .mv (.c (.nl 3)), none⟩] none)
 (.seq (.reg [0, 3] [(7, 3)] [
    ⟨some 5, .mv (.t 0), none⟩,
    ⟨some 6, .len (.t 5), none⟩,
    ⟨some 7, .mks 3 24 [.int .i64 0, .int .i64 0, .int .i64 0] (.t 6), none⟩,
    ⟨some 3, .mv (.t 7), none⟩] none)
  (.seq (.seq (.reg [0, 3, 4] [] [
      ⟨some 4, .mv (.c (.v false (.int .i64 0))), none⟩] none)
    (.blk 0 (.loop pl240_0)))
   (.seq (.reg [2, 3] [] [
      ⟨some 22, .mv (.t 3), none⟩,
      ⟨some 2, .mv (.t 22), none⟩] none)
    (.ret))))

def pf240 : PF := ⟨[.s 2], [], pb240⟩

-- loop.example/g00496/spec.Waits
def pl342_0 : PC :=
.seq (.seq (.reg [0, 1, 5, 6, 10] [] [
          ⟨some 7, .mv (.t 6), none⟩,
          ⟨some 8, .mv (.t 0), none⟩,
          ⟨some 9, .len (.t 8), none⟩,
          ⟨some 10, .bin .lss (.t 7) (.t 9), none⟩] none)
        (.cond (.t 10) (.skip)
         (.exit 0)))
       (.seq (.blk 1 (.seq (.reg [0, 1, 5, 6, 19] [] [
            ⟨some 13, .mv (.t 0), none⟩,
            ⟨some 14, .mv (.t 6), none⟩,
            ⟨some 15, .iad 3 (.t 13) (.t 14), none⟩,
            ⟨some 16, .ld true 3 (.t 15), none⟩,
            ⟨some 17, .mv (.t 1), none⟩,
            ⟨some 18, .call 366 [] [(.t 16), (.t 17)], none⟩,
            ⟨some 19, .un .not (.t 18), none⟩] none)
          (.cond (.t 19) (.reg [0, 1, 5, 6] [] [
             ⟨some 20, .mv (.t 5), none⟩,
             ⟨some 21, .bin .add (.t 20) (.c (.v false (.int .i64 1))), none⟩,
             ⟨some 5, .mv (.t 21), none⟩] none)
           (.skip))))
        (.reg [0, 1, 5, 6] [] [
          ⟨some 11, .mv (.t 6), none⟩,
          ⟨some 12, .bin .add (.t 11) (.c (.v false (.int .i64 1))), none⟩,
          ⟨some 6, .mv (.t 12), none⟩] none))

def pb342 : PC :=
.seq (.reg [0, 1] [] [
   ⟨some 4, .mv (.c (.v false (.int .i64 0))), none⟩] none)
 (.seq (.reg [0, 1, 5] [] [
    ⟨some 5, .mv (.c (.v false (.int .i64 0))), none⟩] none)
  (.seq (.seq (.reg [0, 1, 5, 6] [] [
      ⟨some 6, .mv (.c (.v false (.int .i64 0))), none⟩] none)
    (.blk 0 (.loop pl342_0)))
   (.seq (.reg [4] [] [
      ⟨some 22, .mv (.t 5), none⟩,
      ⟨some 4, .mv (.t 22), none⟩] none)
    (.ret))))

def pf342 : PF := ⟨[.s 4], [], pb342⟩

-- loop.example/g00496/spec.l17Ripe
def pb366 : PC :=
.seq (.reg [1, 2] [] [
   ⟨some 2, .box 3 (.t 0), none⟩,
   ⟨some 4, .mv (.c (.v false (.bool false))), none⟩] none)
 (.seq (.reg [4] [] [
    ⟨some 5, .mv (.t 1), none⟩,
    ⟨some 6, .bin .geq (.t 5) (.c (.v false (.int .i64 2))), none⟩,
    ⟨some 7, .mv (.t 6), none⟩,
    ⟨some 8, .fad (.t 2) 2, some (7, true)⟩,
    ⟨some 9, .ld false 1 (.t 8), some (7, true)⟩,
    ⟨some 10, .mv (.t 1), some (7, true)⟩,
    ⟨some 11, .bin .sub (.t 10) (.c (.v false (.int .i64 2))), some (7, true)⟩,
    ⟨some 12, .bin .leq (.t 9) (.t 11), some (7, true)⟩,
    ⟨some 13, .pick (.t 7) (.t 12) (.c (.v false (.bool false))), none⟩,
    ⟨some 4, .mv (.t 13), none⟩] none)
  (.ret))

def pf366 : PF := ⟨[.s 4], [], pb366⟩

end Go.Proofs.Ytphnbkhopedpgaa.OM
