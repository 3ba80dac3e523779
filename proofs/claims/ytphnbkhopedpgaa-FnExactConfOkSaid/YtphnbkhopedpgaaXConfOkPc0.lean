/- The texts of the functions, as the own machine runs them. -/
import Derived.Test.YtphnbkhopedpgaaOMDef
set_option linter.all false
namespace Go.Proofs.Ytphnbkhopedpgaa.OM
set_option maxRecDepth 100000

-- loop.example/g00496/impl.ColsOk
def pl12_0 : PC :=
.seq (.reg [0, 5, 6, 7, 8] [] [
        ⟨some 8, .bin .lss (.t 7) (.t 6), none⟩] none)
      (.seq (.cond (.t 8) (.skip)
        (.exit 0))
       (.seq (.blk 1 (.seq (.reg [0, 4, 5, 6, 7] [] [
            ⟨some 9, .iad 1 (.t 5) (.t 7), none⟩,
            ⟨some 10, .ld false 1 (.t 9), none⟩,
            ⟨some 4, .mv (.t 10), none⟩] none)
          (.seq (.reg [0, 5, 6, 7, 16] [] [
             ⟨some 11, .mv (.t 4), none⟩,
             ⟨some 12, .bin .neq (.t 11) (.c (.v false (.int .i64 1))), none⟩,
             ⟨some 13, .mv (.t 12), none⟩,
             ⟨some 14, .mv (.t 4), some (13, true)⟩,
             ⟨some 15, .bin .neq (.t 14) (.c (.v false (.int .i64 2))), some (13, true)⟩,
             ⟨some 16, .pick (.t 13) (.t 15) (.c (.v false (.bool false))), none⟩] none)
           (.cond (.t 16) (.seq (.reg [2] [] [
               ⟨some 2, .mv (.c (.v false (.bool false))), none⟩] none)
             (.ret))
            (.skip)))))
        (.reg [0, 5, 6, 7] [] [
          ⟨some 17, .bin .add (.t 7) (.c (.v false (.int .i64 1))), none⟩,
          ⟨some 7, .mv (.t 17), none⟩] none)))

def pb12 : PC :=
.seq (.reg [0] [] [
   ⟨some 2, .mv (.c (.v false (.bool false))), none⟩] none)
 (.seq (.seq (.reg [0, 5, 6, 7] [] [
     ⟨some 5, .mv (.t 0), none⟩,
     ⟨some 6, .len (.t 5), none⟩,
     ⟨some 7, .mv (.c (.v false (.int .i64 0))), none⟩] none)
   (.blk 0 (.loop pl12_0)))
  (.seq (.reg [2] [(20, 2)] [
     ⟨some 18, .mv (.t 0), none⟩,
     ⟨some 19, .len (.t 18), none⟩,
     ⟨some 20, .call 87 [] [(.t 19), (.c (.v false (.int .i64 1))), (.c (.v false (.int .i64 3)))], none⟩,
     ⟨some 2, .mv (.t 20), none⟩] none)
   (.ret)))

def pf12 : PF := ⟨[.s 2], [], pb12⟩

-- loop.example/g00496/impl.ConfOk
def pb13 : PC :=
.seq (.reg [1] [] [
   ⟨some 1, .box 3 (.t 0), none⟩,
   ⟨some 2, .mv (.c (.v false (.bool false))), none⟩] none)
 (.seq (.reg [2, 9, 14] [(5, 2)] [
    ⟨some 3, .fad (.t 1) 0, none⟩,
    ⟨some 4, .ld false 1 (.t 3), none⟩,
    ⟨some 5, .call 12 [] [(.t 4)], none⟩,
    ⟨some 6, .mv (.t 5), none⟩,
    ⟨some 7, .fad (.t 1) 1, some (6, true)⟩,
    ⟨some 8, .ld false 1 (.t 7), some (6, true)⟩,
    ⟨some 9, .call 87 [] [(.t 8), (.c (.v false (.int .i64 1))), (.c (.v false (.int .i64 4)))], some (6, true)⟩,
    ⟨some 10, .pick (.t 6) (.t 9) (.c (.v false (.bool false))), none⟩,
    ⟨some 11, .mv (.t 10), none⟩,
    ⟨some 12, .fad (.t 1) 2, some (11, true)⟩,
    ⟨some 13, .ld false 1 (.t 12), some (11, true)⟩,
    ⟨some 14, .call 87 [] [(.t 13), (.c (.v false (.int .i64 1))), (.c (.v false (.int .i64 8)))], some (11, true)⟩,
    ⟨some 15, .pick (.t 11) (.t 14) (.c (.v false (.bool false))), none⟩,
    ⟨some 2, .mv (.t 15), none⟩] none)
  (.ret))

def pf13 : PF := ⟨[.s 2], [], pb13⟩

-- loop.example/g00496/impl.within
def pb87 : PC :=
.seq (.reg [0, 1, 2] [] [
   ⟨some 6, .mv (.c (.v false (.bool false))), none⟩] none)
 (.seq (.reg [6] [] [
    ⟨some 7, .mv (.t 0), none⟩,
    ⟨some 8, .mv (.t 1), none⟩,
    ⟨some 9, .bin .geq (.t 7) (.t 8), none⟩,
    ⟨some 10, .mv (.t 9), none⟩,
    ⟨some 11, .mv (.t 0), some (10, true)⟩,
    ⟨some 12, .mv (.t 2), some (10, true)⟩,
    ⟨some 13, .bin .leq (.t 11) (.t 12), some (10, true)⟩,
    ⟨some 14, .pick (.t 10) (.t 13) (.c (.v false (.bool false))), none⟩,
    ⟨some 6, .mv (.t 14), none⟩] none)
  (.ret))

def pf87 : PF := ⟨[.s 6], [], pb87⟩

-- loop.example/g00496/laws.FnExactConfOk
def pb96 : PC :=
.seq (.reg [1] [] [
   ⟨some 1, .box 3 (.t 0), none⟩,
   ⟨some 2, .mv (.c (.v false (.bool false))), none⟩] none)
 (.seq (.reg [1, 3] [] [
    ⟨some 3, .mv (.c (.v false (.int .i64 1048576))), none⟩] none)
  (.seq (.reg [1, 3] [(9, 3)] [
     ⟨some 7, .ld true 3 (.t 1), none⟩,
     ⟨some 8, .mv (.t 3), none⟩,
     ⟨some 9, .call 214 [] [(.t 7), (.t 8)], none⟩,
     ⟨some 3, .mv (.t 9), none⟩] none)
   (.seq (.seq (.reg [1, 11] [] [
       ⟨some 10, .mv (.t 3), none⟩,
       ⟨some 11, .bin .lss (.t 10) (.c (.v false (.int .i64 0))), none⟩] none)
     (.cond (.t 11) (.seq (.reg [2] [] [
         ⟨some 2, .mv (.c (.v false (.bool true))), none⟩] none)
       (.ret))
      (.skip)))
    (.seq (.reg [1, 4] [(14, 4)] [
       ⟨some 12, .ld true 3 (.t 1), none⟩,
       ⟨some 13, .call 238 [] [(.t 12)], none⟩,
       ⟨some 14, .call 269 [] [(.t 13)], none⟩,
       ⟨some 4, .mv (.t 14), none⟩] none)
     (.seq (.reg [1, 4, 5] [] [
        ⟨some 15, .ld true 3 (.t 1), none⟩,
        ⟨some 16, .call 238 [] [(.t 15)], none⟩,
        ⟨some 5, .alloc [(.nl 1), (.v false (.int .i64 0)), (.v false (.int .i64 0))], none⟩,
        ⟨none, .st 3 (.t 5) (.t 16), none⟩] none)
      (.seq (.reg [1, 4, 5, 6] [(18, 6)] [
         ⟨some 17, .ld true 3 (.t 5), none⟩,
         ⟨some 18, .call 13 [] [(.t 17)], none⟩,
         ⟨some 6, .mv (.t 18), none⟩] none)
       (.seq (.seq (.reg [1, 5, 21] [] [
           ⟨some 19, .mv (.t 6), none⟩,
           ⟨some 20, .mv (.t 4), none⟩,
           ⟨some 21, .eqb true (.t 19) (.t 20), none⟩] none)
         (.cond (.t 21) (.seq (.reg [2] [] [
             ⟨some 2, .mv (.c (.v false (.bool false))), none⟩] none)
           (.ret))
          (.skip)))
        (.seq (.seq (.reg [26] [] [
            ⟨some 22, .ld true 3 (.t 5), none⟩,
            ⟨some 23, .ld true 3 (.t 1), none⟩,
            ⟨some 24, .call 238 [] [(.t 23)], none⟩,
            ⟨some 25, .call 146 [] [(.t 22), (.t 24)], none⟩,
            ⟨some 26, .un .not (.t 25), none⟩] (some [(0, 2)]))
          (.cond (.t 26) (.seq (.reg [2] [] [
              ⟨some 2, .mv (.c (.v false (.bool false))), none⟩] none)
            (.ret))
           (.skip)))
         (.seq (.reg [2] [] [
            ⟨some 2, .mv (.c (.v false (.bool true))), none⟩] none)
          (.ret))))))))))

def pf96 : PF := ⟨[.s 2], [], pb96⟩

-- loop.example/g00496/laws.eqConf
def pb146 : PC :=
.seq (.reg [2, 3] [] [
   ⟨some 2, .box 3 (.t 0), none⟩,
   ⟨some 3, .box 3 (.t 1), none⟩,
   ⟨some 4, .mv (.c (.v false (.bool false))), none⟩] none)
 (.seq (.seq (.reg [2, 3, 10] [] [
     ⟨some 5, .fad (.t 2) 0, none⟩,
     ⟨some 6, .ld false 1 (.t 5), none⟩,
     ⟨some 7, .fad (.t 3) 0, none⟩,
     ⟨some 8, .ld false 1 (.t 7), none⟩,
     ⟨some 9, .call 152 [] [(.t 6), (.t 8)], none⟩,
     ⟨some 10, .un .not (.t 9), none⟩] none)
   (.cond (.t 10) (.seq (.reg [4] [] [
       ⟨some 4, .mv (.c (.v false (.bool false))), none⟩] none)
     (.ret))
    (.skip)))
  (.seq (.seq (.reg [2, 3, 15] [] [
      ⟨some 11, .fad (.t 2) 1, none⟩,
      ⟨some 12, .ld false 1 (.t 11), none⟩,
      ⟨some 13, .fad (.t 3) 1, none⟩,
      ⟨some 14, .ld false 1 (.t 13), none⟩,
      ⟨some 15, .bin .neq (.t 12) (.t 14), none⟩] none)
    (.cond (.t 15) (.seq (.reg [4] [] [
        ⟨some 4, .mv (.c (.v false (.bool false))), none⟩] none)
      (.ret))
     (.skip)))
   (.seq (.seq (.reg [20] [] [
       ⟨some 16, .fad (.t 2) 2, none⟩,
       ⟨some 17, .ld false 1 (.t 16), none⟩,
       ⟨some 18, .fad (.t 3) 2, none⟩,
       ⟨some 19, .ld false 1 (.t 18), none⟩,
       ⟨some 20, .bin .neq (.t 17) (.t 19), none⟩] none)
     (.cond (.t 20) (.seq (.reg [4] [] [
         ⟨some 4, .mv (.c (.v false (.bool false))), none⟩] none)
       (.ret))
      (.skip)))
    (.seq (.reg [4] [] [
       ⟨some 4, .mv (.c (.v false (.bool true))), none⟩] none)
     (.ret)))))

def pf146 : PF := ⟨[.s 4], [], pb146⟩

-- loop.example/g00496/laws.eqIntS
def pl152_0 : PC :=
.seq (.seq (.reg [0, 1, 5, 14] [] [
          ⟨some 11, .mv (.t 5), none⟩,
          ⟨some 12, .mv (.t 0), none⟩,
          ⟨some 13, .len (.t 12), none⟩,
          ⟨some 14, .bin .lss (.t 11) (.t 13), none⟩] none)
        (.cond (.t 14) (.skip)
         (.exit 0)))
       (.seq (.blk 1 (.seq (.reg [0, 1, 5, 25] [] [
            ⟨some 17, .mv (.t 0), none⟩,
            ⟨some 18, .mv (.t 5), none⟩,
            ⟨some 19, .iad 1 (.t 17) (.t 18), none⟩,
            ⟨some 20, .ld false 1 (.t 19), none⟩,
            ⟨some 21, .mv (.t 1), none⟩,
            ⟨some 22, .mv (.t 5), none⟩,
            ⟨some 23, .iad 1 (.t 21) (.t 22), none⟩,
            ⟨some 24, .ld false 1 (.t 23), none⟩,
            ⟨some 25, .bin .neq (.t 20) (.t 24), none⟩] (some []))
          (.cond (.t 25) (.seq (.reg [4] [] [
              ⟨some 4, .mv (.c (.v false (.bool false))), none⟩] none)
            (.ret))
           (.skip))))
        (.reg [0, 1, 5] [] [
          ⟨some 15, .mv (.t 5), none⟩,
          ⟨some 16, .bin .add (.t 15) (.c (.v false (.int .i64 1))), none⟩,
          ⟨some 5, .mv (.t 16), none⟩] none))

def pb152 : PC :=
.seq (.reg [0, 1] [] [
   ⟨some 4, .mv (.c (.v false (.bool false))), none⟩] none)
 (.seq (.seq (.reg [0, 1, 10] [] [
     ⟨some 6, .mv (.t 0), none⟩,
     ⟨some 7, .len (.t 6), none⟩,
     ⟨some 8, .mv (.t 1), none⟩,
     ⟨some 9, .len (.t 8), none⟩,
     ⟨some 10, .bin .neq (.t 7) (.t 9), none⟩] none)
   (.cond (.t 10) (.seq (.reg [4] [] [
       ⟨some 4, .mv (.c (.v false (.bool false))), none⟩] none)
     (.ret))
    (.skip)))
  (.seq (.seq (.reg [0, 1, 5] [] [
      ⟨some 5, .mv (.c (.v false (.int .i64 0))), none⟩] none)
    (.blk 0 (.loop pl152_0)))
   (.seq (.reg [4] [] [
      ⟨some 4, .mv (.c (.v false (.bool true))), none⟩] none)
    (.ret))))

def pf152 : PF := ⟨[.s 4], [], pb152⟩

-- loop.example/g00496/laws.szConf
def pb214 : PC :=
.seq (.reg [1, 2] [] [
   ⟨some 2, .box 3 (.t 0), none⟩,
   ⟨some 4, .mv (.c (.v false (.int .i64 0))), none⟩] none)
 (.seq (.reg [1] [(8, 1)] [
    ⟨some 5, .fad (.t 2) 0, none⟩,
    ⟨some 6, .ld false 1 (.t 5), none⟩,
    ⟨some 7, .mv (.t 1), none⟩,
    ⟨some 8, .call 219 [] [(.t 6), (.t 7)], none⟩,
    ⟨some 1, .mv (.t 8), none⟩] none)
  (.seq (.seq (.reg [1, 10] [] [
      ⟨some 9, .mv (.t 1), none⟩,
      ⟨some 10, .bin .lss (.t 9) (.c (.v false (.int .i64 0))), none⟩] none)
    (.cond (.t 10) (.seq (.reg [4] [] [
        ⟨some 4, .mv (.c (.v false (.int .i64 (-1)))), none⟩] none)
      (.ret))
     (.skip)))
   (.seq (.reg [1, 4] [] [
      ⟨some 11, .mv (.t 1), none⟩,
      ⟨some 4, .mv (.t 11), none⟩] none)
    (.ret))))

def pf214 : PF := ⟨[.s 4], [], pb214⟩

-- loop.example/g00496/laws.szIntS
def pb219 : PC :=
.seq (.reg [0, 1] [] [
   ⟨some 4, .mv (.c (.v false (.int .i64 0))), none⟩] none)
 (.seq (.reg [1] [] [
    ⟨some 5, .mv (.t 1), none⟩,
    ⟨some 6, .mv (.t 0), none⟩,
    ⟨some 7, .len (.t 6), none⟩,
    ⟨some 8, .bin .sub (.t 5) (.t 7), none⟩,
    ⟨some 1, .mv (.t 8), none⟩] none)
  (.seq (.seq (.reg [1, 10] [] [
      ⟨some 9, .mv (.t 1), none⟩,
      ⟨some 10, .bin .lss (.t 9) (.c (.v false (.int .i64 0))), none⟩] none)
    (.cond (.t 10) (.seq (.reg [4] [] [
        ⟨some 4, .mv (.c (.v false (.int .i64 (-1)))), none⟩] none)
      (.ret))
     (.skip)))
   (.seq (.reg [4] [] [
      ⟨some 11, .mv (.t 1), none⟩,
      ⟨some 4, .mv (.t 11), none⟩] none)
    (.ret))))

def pf219 : PF := ⟨[.s 4], [], pb219⟩

-- loop.example/g00496/laws.toConf
def pb238 : PC :=
.seq (.reg [1, 2] [] [
   ⟨some 1, .box 3 (.t 0), none⟩,
   ⟨some 2, .alloc [(.nl 1), (.v false (.int .i64 0)), (.v false (.int .i64 0))], none⟩] none)
 (.seq (.reg [1, 2, 3] [] [
    ⟨some 3, .alloc [(.nl 1), (.v false (.int .i64 0)), (.v false (.int .i64 0))], none⟩] none)
  (.seq (.reg [1, 2, 3] [] [
     ⟨some 4, .fad (.t 1) 0, none⟩,
     ⟨some 5, .ld false 1 (.t 4), none⟩,
     ⟨some 6, .call 244 [] [(.t 5)], none⟩,
     ⟨some 7, .fad (.t 3) 0, none⟩,
     ⟨none, .st 1 (.t 7) (.t 6), none⟩] none)
   (.seq (.reg [1, 2, 3] [] [
      ⟨some 8, .fad (.t 1) 1, none⟩,
      ⟨some 9, .ld false 1 (.t 8), none⟩,
      ⟨some 10, .fad (.t 3) 1, none⟩,
      ⟨none, .st 1 (.t 10) (.t 9), none⟩] none)
    (.seq (.reg [2, 3] [] [
       ⟨some 11, .fad (.t 1) 2, none⟩,
       ⟨some 12, .ld false 1 (.t 11), none⟩,
       ⟨some 13, .fad (.t 3) 2, none⟩,
       ⟨none, .st 1 (.t 13) (.t 12), none⟩] none)
     (.seq (.reg [2] [] [
        ⟨some 14, .ld true 3 (.t 3), none⟩,
        ⟨none, .st 3 (.t 2) (.t 14), none⟩] none)
      (.ret))))))

def pf238 : PF := ⟨[.b 2 3 true], [], pb238⟩

-- loop.example/g00496/laws.toIntS
def pl244_0 : PC :=
.seq (.seq (.reg [0, 3, 4, 11] [] [
          ⟨some 8, .mv (.t 4), none⟩,
          ⟨some 9, .mv (.t 0), none⟩,
          ⟨some 10, .len (.t 9), none⟩,
          ⟨some 11, .bin .lss (.t 8) (.t 10), none⟩] none)
        (.cond (.t 11) (.skip)
         (.exit 0)))
       (.seq (.blk 1 (.reg [0, 3, 4] [] [
           ⟨some 14, .mv (.t 3), none⟩,
           ⟨some 15, .mv (.t 4), none⟩,
           ⟨some 16, .mv (.t 0), none⟩,
           ⟨some 17, .mv (.t 4), none⟩,
           ⟨some 18, .iad 1 (.t 16) (.t 17), none⟩,
           ⟨some 19, .ld false 1 (.t 18), none⟩,
           ⟨some 20, .iad 1 (.t 14) (.t 15), none⟩,
           ⟨none, .st 1 (.t 20) (.t 19), none⟩] none))
        (.reg [0, 3, 4] [] [
          ⟨some 12, .mv (.t 4), none⟩,
          ⟨some 13, .bin .add (.t 12) (.c (.v false (.int .i64 1))), none⟩,
          ⟨some 4, .mv (.t 13), none⟩] none))

def pb244 : PC :=
.seq (.reg [0] [] [
   ⟨some 2, .mv (.c (.nl 1)), none⟩] none)
 (.seq (.reg [0, 3] [(7, 3)] [
    ⟨some 5, .mv (.t 0), none⟩,
    ⟨some 6, .len (.t 5), none⟩,
    ⟨some 7, .mks 1 8 [.int .i64 0] (.t 6), none⟩,
    ⟨some 3, .mv (.t 7), none⟩] none)
  (.seq (.seq (.reg [0, 3, 4] [] [
      ⟨some 4, .mv (.c (.v false (.int .i64 0))), none⟩] none)
    (.blk 0 (.loop pl244_0)))
   (.seq (.reg [2, 3] [] [
      ⟨some 21, .mv (.t 3), none⟩,
      ⟨some 2, .mv (.t 21), none⟩] none)
    (.ret))))

def pf244 : PF := ⟨[.s 2], [], pb244⟩

-- loop.example/g00496/spec.ColsOk
def pl268_0 : PC :=
.seq (.seq (.reg [0, 3, 7] [] [
         ⟨some 4, .mv (.t 3), none⟩,
         ⟨some 5, .mv (.t 0), none⟩,
         ⟨some 6, .len (.t 5), none⟩,
         ⟨some 7, .bin .lss (.t 4) (.t 6), none⟩] none)
       (.cond (.t 7) (.skip)
        (.exit 0)))
      (.seq (.blk 1 (.seq (.reg [0, 3, 15] [] [
           ⟨some 10, .mv (.t 0), none⟩,
           ⟨some 11, .mv (.t 3), none⟩,
           ⟨some 12, .iad 1 (.t 10) (.t 11), none⟩,
           ⟨some 13, .ld false 1 (.t 12), none⟩,
           ⟨some 14, .call 377 [] [(.t 13), (.c (.v false (.int .i64 1))), (.c (.v false (.int .i64 2)))], none⟩,
           ⟨some 15, .un .not (.t 14), none⟩] none)
         (.cond (.t 15) (.seq (.reg [2] [] [
             ⟨some 2, .mv (.c (.v false (.bool false))), none⟩] none)
           (.ret))
          (.skip))))
       (.reg [0, 3] [] [
         ⟨some 8, .mv (.t 3), none⟩,
         ⟨some 9, .bin .add (.t 8) (.c (.v false (.int .i64 1))), none⟩,
         ⟨some 3, .mv (.t 9), none⟩] none))

def pb268 : PC :=
.seq (.reg [0] [] [
   ⟨some 2, .mv (.c (.v false (.bool false))), none⟩] none)
 (.seq (.seq (.reg [0, 3] [] [
     ⟨some 3, .mv (.c (.v false (.int .i64 0))), none⟩] none)
   (.blk 0 (.loop pl268_0)))
  (.seq (.reg [2] [(18, 2)] [
     ⟨some 16, .mv (.t 0), none⟩,
     ⟨some 17, .len (.t 16), none⟩,
     ⟨some 18, .call 377 [] [(.t 17), (.c (.v false (.int .i64 1))), (.c (.v false (.int .i64 3)))], none⟩,
     ⟨some 2, .mv (.t 18), none⟩] none)
   (.ret)))

def pf268 : PF := ⟨[.s 2], [], pb268⟩

-- loop.example/g00496/spec.ConfOk
def pb269 : PC :=
.seq (.reg [1] [] [
   ⟨some 1, .box 3 (.t 0), none⟩,
   ⟨some 2, .mv (.c (.v false (.bool false))), none⟩] none)
 (.seq (.reg [2, 9, 14] [(5, 2)] [
    ⟨some 3, .fad (.t 1) 0, none⟩,
    ⟨some 4, .ld false 1 (.t 3), none⟩,
    ⟨some 5, .call 268 [] [(.t 4)], none⟩,
    ⟨some 6, .mv (.t 5), none⟩,
    ⟨some 7, .fad (.t 1) 1, some (6, true)⟩,
    ⟨some 8, .ld false 1 (.t 7), some (6, true)⟩,
    ⟨some 9, .call 377 [] [(.t 8), (.c (.v false (.int .i64 1))), (.c (.v false (.int .i64 4)))], some (6, true)⟩,
    ⟨some 10, .pick (.t 6) (.t 9) (.c (.v false (.bool false))), none⟩,
    ⟨some 11, .mv (.t 10), none⟩,
    ⟨some 12, .fad (.t 1) 2, some (11, true)⟩,
    ⟨some 13, .ld false 1 (.t 12), some (11, true)⟩,
    ⟨some 14, .call 377 [] [(.t 13), (.c (.v false (.int .i64 1))), (.c (.v false (.int .i64 8)))], some (11, true)⟩,
    ⟨some 15, .pick (.t 11) (.t 14) (.c (.v false (.bool false))), none⟩,
    ⟨some 2, .mv (.t 15), none⟩] none)
  (.ret))

def pf269 : PF := ⟨[.s 2], [], pb269⟩

-- loop.example/g00496/spec.l1In
def pb377 : PC :=
.seq (.reg [0, 1, 2] [] [
   ⟨some 6, .mv (.c (.v false (.bool false))), none⟩] none)
 (.seq (.reg [6] [] [
    ⟨some 7, .mv (.t 0), none⟩,
    ⟨some 8, .mv (.t 1), none⟩,
    ⟨some 9, .bin .geq (.t 7) (.t 8), none⟩,
    ⟨some 10, .mv (.t 9), none⟩,
    ⟨some 11, .mv (.t 0), some (10, true)⟩,
    ⟨some 12, .mv (.t 2), some (10, true)⟩,
    ⟨some 13, .bin .leq (.t 11) (.t 12), some (10, true)⟩,
    ⟨some 14, .pick (.t 10) (.t 13) (.c (.v false (.bool false))), none⟩,
    ⟨some 6, .mv (.t 14), none⟩] none)
  (.ret))

def pf377 : PF := ⟨[.s 6], [], pb377⟩

end Go.Proofs.Ytphnbkhopedpgaa.OM
