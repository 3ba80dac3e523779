/- The texts of the functions, as the own machine runs them. -/
import Derived.Test.YtkhgflloifjniaaOMDef
set_option linter.all false
namespace Go.Proofs.Ytkhgflloifjniaa.OM
set_option maxRecDepth 100000

-- loop.example/g00496/impl.RefAt
def pl41_0 : PC :=
.seq (.reg [1, 2, 8, 9, 10, 11] [] [
        ⟨some 11, .bin .lss (.t 10) (.t 9), none⟩] none)
      (.seq (.cond (.t 11) (.skip)
        (.exit 0))
       (.seq (.blk 1 (.seq (.reg [1, 2, 5, 6, 8, 9, 10] [] [
            ⟨some 12, .mv (.t 10), none⟩,
            ⟨some 13, .iad 5 (.t 8) (.t 10), none⟩,
            ⟨some 14, .ld true 5 (.t 13), none⟩,
            ⟨some 6, .alloc [(.v false (.int .i64 0)), (.v false (.int .i64 0)), (.v false (.int .i64 0)), (.v false (.int .i64 0)), (.v false (.int .i64 0))], none⟩,
            ⟨some 5, .mv (.t 12), none⟩,
            ⟨none, .st 5 (.t 6) (.t 14), none⟩] none)
          (.seq (.reg [1, 2, 5, 8, 9, 10, 17] [] [
             ⟨some 15, .ld true 5 (.t 6), none⟩,
             ⟨some 16, .mv (.t 1), none⟩,
             ⟨some 17, .call 77 [] [(.t 15), (.t 16)], none⟩] none)
           (.cond (.t 17) (.seq (.reg [4] [] [
               ⟨some 18, .mv (.t 5), none⟩,
               ⟨some 4, .mv (.t 18), none⟩] none)
             (.ret))
            (.skip)))))
        (.reg [1, 2, 8, 9, 10] [] [
          ⟨some 19, .bin .add (.t 10) (.c (.v false (.int .i64 1))), none⟩,
          ⟨some 10, .mv (.t 19), none⟩] none)))

def pb41 : PC :=
.seq (.reg [1, 2] [] [
   ⟨some 2, .box 2 (.t 0), none⟩,
   ⟨some 4, .mv (.c (.v false (.int .i64 0))), none⟩] none)
 (.seq (.seq (.reg [1, 2, 8, 9, 10] [] [
     ⟨some 7, .fad (.t 2) 1, none⟩,
     ⟨some 8, .ld false 1 (.t 7), none⟩,
     ⟨some 9, .len (.t 8), none⟩,
     ⟨some 10, .mv (.c (.v false (.int .i64 0))), none⟩] none)
   (.blk 0 (.loop pl41_0)))
  (.seq (.reg [4] [] [
     ⟨some 4, .mv (.c (.v false (.int .i64 (-1)))), none⟩] none)
   (.ret)))

def pf41 : PF := ⟨[.s 4], [], pb41⟩

-- loop.example/g00496/impl.contains
def pb77 : PC :=
.seq (.reg [1, 2] [] [
   ⟨some 2, .box 5 (.t 0), none⟩,
   ⟨some 4, .mv (.c (.v false (.bool false))), none⟩] none)
 (.seq (.reg [4] [] [
    ⟨some 5, .fad (.t 2) 3, none⟩,
    ⟨some 6, .ld false 1 (.t 5), none⟩,
    ⟨some 7, .bin .geq (.t 6) (.c (.v false (.int .i64 0))), none⟩,
    ⟨some 8, .mv (.t 7), none⟩,
    ⟨some 9, .mv (.t 1), some (8, true)⟩,
    ⟨some 10, .fad (.t 2) 3, some (8, true)⟩,
    ⟨some 11, .ld false 1 (.t 10), some (8, true)⟩,
    ⟨some 12, .bin .geq (.t 9) (.t 11), some (8, true)⟩,
    ⟨some 13, .pick (.t 8) (.t 12) (.c (.v false (.bool false))), none⟩,
    ⟨some 14, .mv (.t 13), none⟩,
    ⟨some 15, .mv (.t 1), some (14, true)⟩,
    ⟨some 16, .fad (.t 2) 3, some (14, true)⟩,
    ⟨some 17, .ld false 1 (.t 16), some (14, true)⟩,
    ⟨some 18, .bin .sub (.t 15) (.t 17), some (14, true)⟩,
    ⟨some 19, .fad (.t 2) 4, some (14, true)⟩,
    ⟨some 20, .ld false 1 (.t 19), some (14, true)⟩,
    ⟨some 21, .bin .lss (.t 18) (.t 20), some (14, true)⟩,
    ⟨some 22, .pick (.t 14) (.t 21) (.c (.v false (.bool false))), none⟩,
    ⟨some 4, .mv (.t 22), none⟩] none)
  (.ret))

def pf77 : PF := ⟨[.s 4], [], pb77⟩

-- loop.example/g00496/laws.FnExactRefAt
def pb120 : PC :=
.seq (.reg [1, 2] [] [
   ⟨some 2, .box 2 (.t 0), none⟩,
   ⟨some 4, .mv (.c (.v false (.bool false))), none⟩] none)
 (.seq (.reg [1, 2, 5] [] [
    ⟨some 5, .mv (.c (.v false (.int .i64 1048576))), none⟩] none)
  (.seq (.reg [1, 2, 5] [(11, 5)] [
     ⟨some 9, .ld true 2 (.t 2), none⟩,
     ⟨some 10, .mv (.t 5), none⟩,
     ⟨some 11, .call 218 [] [(.t 9), (.t 10)], none⟩,
     ⟨some 5, .mv (.t 11), none⟩] none)
   (.seq (.seq (.reg [1, 2, 13] [] [
       ⟨some 12, .mv (.t 5), none⟩,
       ⟨some 13, .bin .lss (.t 12) (.c (.v false (.int .i64 0))), none⟩] none)
     (.cond (.t 13) (.seq (.reg [4] [] [
         ⟨some 4, .mv (.c (.v false (.bool true))), none⟩] none)
       (.ret))
      (.skip)))
    (.seq (.reg [1, 2, 6] [(17, 6)] [
       ⟨some 14, .ld true 2 (.t 2), none⟩,
       ⟨some 15, .call 243 [] [(.t 14)], none⟩,
       ⟨some 16, .mv (.t 1), none⟩,
       ⟨some 17, .call 322 [] [(.t 15), (.t 16)], none⟩,
       ⟨some 6, .mv (.t 17), none⟩] none)
     (.seq (.reg [1, 2, 6, 7] [] [
        ⟨some 18, .ld true 2 (.t 2), none⟩,
        ⟨some 19, .call 243 [] [(.t 18)], none⟩,
        ⟨some 7, .alloc [(.v false (.int .i64 0)), (.nl 5)], none⟩,
        ⟨none, .st 2 (.t 7) (.t 19), none⟩] none)
      (.seq (.reg [2, 6, 7, 8] [(22, 8)] [
         ⟨some 20, .ld true 2 (.t 7), none⟩,
         ⟨some 21, .mv (.t 1), none⟩,
         ⟨some 22, .call 41 [] [(.t 20), (.t 21)], none⟩,
         ⟨some 8, .mv (.t 22), none⟩] none)
       (.seq (.seq (.reg [2, 7, 25] [] [
           ⟨some 23, .mv (.t 8), none⟩,
           ⟨some 24, .mv (.t 6), none⟩,
           ⟨some 25, .bin .neq (.t 23) (.t 24), none⟩] none)
         (.cond (.t 25) (.seq (.reg [4] [] [
             ⟨some 4, .mv (.c (.v false (.bool false))), none⟩] none)
           (.ret))
          (.skip)))
        (.seq (.seq (.reg [30] [] [
            ⟨some 26, .ld true 2 (.t 7), none⟩,
            ⟨some 27, .ld true 2 (.t 2), none⟩,
            ⟨some 28, .call 243 [] [(.t 27)], none⟩,
            ⟨some 29, .call 151 [] [(.t 26), (.t 28)], none⟩,
            ⟨some 30, .un .not (.t 29), none⟩] (some [(0, 2)]))
          (.cond (.t 30) (.seq (.reg [4] [] [
              ⟨some 4, .mv (.c (.v false (.bool false))), none⟩] none)
            (.ret))
           (.skip)))
         (.seq (.reg [4] [] [
            ⟨some 4, .mv (.c (.v false (.bool true))), none⟩] none)
          (.ret))))))))))

def pf120 : PF := ⟨[.s 4], [], pb120⟩

-- loop.example/g00496/laws.eqDir
def pb151 : PC :=
.seq (.reg [2, 3] [] [
   ⟨some 2, .box 2 (.t 0), none⟩,
   ⟨some 3, .box 2 (.t 1), none⟩,
   ⟨some 4, .mv (.c (.v false (.bool false))), none⟩] none)
 (.seq (.seq (.reg [2, 3, 9] [] [
     ⟨some 5, .fad (.t 2) 0, none⟩,
     ⟨some 6, .ld false 1 (.t 5), none⟩,
     ⟨some 7, .fad (.t 3) 0, none⟩,
     ⟨some 8, .ld false 1 (.t 7), none⟩,
     ⟨some 9, .bin .neq (.t 6) (.t 8), none⟩] none)
   (.cond (.t 9) (.seq (.reg [4] [] [
       ⟨some 4, .mv (.c (.v false (.bool false))), none⟩] none)
     (.ret))
    (.skip)))
  (.seq (.seq (.reg [15] [] [
      ⟨some 10, .fad (.t 2) 1, none⟩,
      ⟨some 11, .ld false 1 (.t 10), none⟩,
      ⟨some 12, .fad (.t 3) 1, none⟩,
      ⟨some 13, .ld false 1 (.t 12), none⟩,
      ⟨some 14, .call 157 [] [(.t 11), (.t 13)], none⟩,
      ⟨some 15, .un .not (.t 14), none⟩] none)
    (.cond (.t 15) (.seq (.reg [4] [] [
        ⟨some 4, .mv (.c (.v false (.bool false))), none⟩] none)
      (.ret))
     (.skip)))
   (.seq (.reg [4] [] [
      ⟨some 4, .mv (.c (.v false (.bool true))), none⟩] none)
    (.ret))))

def pf151 : PF := ⟨[.s 4], [], pb151⟩

-- loop.example/g00496/laws.eqRef
def pb156 : PC :=
.seq (.reg [2, 3] [] [
   ⟨some 2, .box 5 (.t 0), none⟩,
   ⟨some 3, .box 5 (.t 1), none⟩,
   ⟨some 4, .mv (.c (.v false (.bool false))), none⟩] none)
 (.seq (.seq (.reg [2, 3, 9] [] [
     ⟨some 5, .fad (.t 2) 0, none⟩,
     ⟨some 6, .ld false 1 (.t 5), none⟩,
     ⟨some 7, .fad (.t 3) 0, none⟩,
     ⟨some 8, .ld false 1 (.t 7), none⟩,
     ⟨some 9, .bin .neq (.t 6) (.t 8), none⟩] none)
   (.cond (.t 9) (.seq (.reg [4] [] [
       ⟨some 4, .mv (.c (.v false (.bool false))), none⟩] none)
     (.ret))
    (.skip)))
  (.seq (.seq (.reg [2, 3, 14] [] [
      ⟨some 10, .fad (.t 2) 1, none⟩,
      ⟨some 11, .ld false 1 (.t 10), none⟩,
      ⟨some 12, .fad (.t 3) 1, none⟩,
      ⟨some 13, .ld false 1 (.t 12), none⟩,
      ⟨some 14, .bin .neq (.t 11) (.t 13), none⟩] none)
    (.cond (.t 14) (.seq (.reg [4] [] [
        ⟨some 4, .mv (.c (.v false (.bool false))), none⟩] none)
      (.ret))
     (.skip)))
   (.seq (.seq (.reg [2, 3, 19] [] [
       ⟨some 15, .fad (.t 2) 2, none⟩,
       ⟨some 16, .ld false 1 (.t 15), none⟩,
       ⟨some 17, .fad (.t 3) 2, none⟩,
       ⟨some 18, .ld false 1 (.t 17), none⟩,
       ⟨some 19, .bin .neq (.t 16) (.t 18), none⟩] none)
     (.cond (.t 19) (.seq (.reg [4] [] [
         ⟨some 4, .mv (.c (.v false (.bool false))), none⟩] none)
       (.ret))
      (.skip)))
    (.seq (.seq (.reg [2, 3, 24] [] [
        ⟨some 20, .fad (.t 2) 3, none⟩,
        ⟨some 21, .ld false 1 (.t 20), none⟩,
        ⟨some 22, .fad (.t 3) 3, none⟩,
        ⟨some 23, .ld false 1 (.t 22), none⟩,
        ⟨some 24, .bin .neq (.t 21) (.t 23), none⟩] none)
      (.cond (.t 24) (.seq (.reg [4] [] [
          ⟨some 4, .mv (.c (.v false (.bool false))), none⟩] none)
        (.ret))
       (.skip)))
     (.seq (.seq (.reg [29] [] [
         ⟨some 25, .fad (.t 2) 4, none⟩,
         ⟨some 26, .ld false 1 (.t 25), none⟩,
         ⟨some 27, .fad (.t 3) 4, none⟩,
         ⟨some 28, .ld false 1 (.t 27), none⟩,
         ⟨some 29, .bin .neq (.t 26) (.t 28), none⟩] none)
       (.cond (.t 29) (.seq (.reg [4] [] [
           ⟨some 4, .mv (.c (.v false (.bool false))), none⟩] none)
         (.ret))
        (.skip)))
      (.seq (.reg [4] [] [
         ⟨some 4, .mv (.c (.v false (.bool true))), none⟩] none)
       (.ret)))))))

def pf156 : PF := ⟨[.s 4], [], pb156⟩

-- loop.example/g00496/laws.eqRefS
def pl157_0 : PC :=
.seq (.seq (.reg [0, 1, 5, 14] [] [
          ⟨some 11, .mv (.t 5), none⟩,
          ⟨some 12, .mv (.t 0), none⟩,
          ⟨some 13, .len (.t 12), none⟩,
          ⟨some 14, .bin .lss (.t 11) (.t 13), none⟩] none)
        (.cond (.t 14) (.skip)
         (.exit 0)))
       (.seq (.blk 1 (.seq (.reg [0, 1, 5, 26] [] [
            ⟨some 17, .mv (.t 0), none⟩,
            ⟨some 18, .mv (.t 5), none⟩,
            ⟨some 19, .iad 5 (.t 17) (.t 18), none⟩,
            ⟨some 20, .ld true 5 (.t 19), none⟩,
            ⟨some 21, .mv (.t 1), none⟩,
            ⟨some 22, .mv (.t 5), none⟩,
            ⟨some 23, .iad 5 (.t 21) (.t 22), none⟩,
            ⟨some 24, .ld true 5 (.t 23), none⟩,
            ⟨some 25, .call 156 [] [(.t 20), (.t 24)], none⟩,
            ⟨some 26, .un .not (.t 25), none⟩] (some []))
          (.cond (.t 26) (.seq (.reg [4] [] [
              ⟨some 4, .mv (.c (.v false (.bool false))), none⟩] none)
            (.ret))
           (.skip))))
        (.reg [0, 1, 5] [] [
          ⟨some 15, .mv (.t 5), none⟩,
          ⟨some 16, .bin .add (.t 15) (.c (.v false (.int .i64 1))), none⟩,
          ⟨some 5, .mv (.t 16), none⟩] none))

def pb157 : PC :=
.seq (.reg [0, 1] [] [
   ⟨some 4, .mv (.c (.v false (.bool false))), none⟩] none)
 (.seq (.seq (.reg [0, 1, 10] [] [
     ⟨some 6, .mv (.t 0), none⟩,
     ⟨some 7, .len (.t 6), none⟩,
     ⟨some 8, .mv (.t 1), none⟩,
     ⟨some 9, .len (.t 8), none⟩,
     ⟨some 10, .bin .neq (.t 7) (.t 9), none⟩] none)
   (.cond (.t 10) (.seq (.reg [4] [] [
       ⟨some 4, .mv (.c (.v false (.bool false))), none⟩] none)
     (.ret))
    (.skip)))
  (.seq (.seq (.reg [0, 1, 5] [] [
      ⟨some 5, .mv (.c (.v false (.int .i64 0))), none⟩] none)
    (.blk 0 (.loop pl157_0)))
   (.seq (.reg [4] [] [
      ⟨some 4, .mv (.c (.v false (.bool true))), none⟩] none)
    (.ret))))

def pf157 : PF := ⟨[.s 4], [], pb157⟩

-- loop.example/g00496/laws.szDir
def pb218 : PC :=
.seq (.reg [1, 2] [] [
   ⟨some 2, .box 2 (.t 0), none⟩,
   ⟨some 4, .mv (.c (.v false (.int .i64 0))), none⟩] none)
 (.seq (.reg [1] [(8, 1)] [
    ⟨some 5, .fad (.t 2) 1, none⟩,
    ⟨some 6, .ld false 1 (.t 5), none⟩,
    ⟨some 7, .mv (.t 1), none⟩,
    ⟨some 8, .call 223 [] [(.t 6), (.t 7)], none⟩,
    ⟨some 1, .mv (.t 8), none⟩] none)
  (.seq (.seq (.reg [1, 10] [] [
      ⟨some 9, .mv (.t 1), none⟩,
      ⟨some 10, .bin .lss (.t 9) (.c (.v false (.int .i64 0))), none⟩] none)
    (.cond (.t 10) (.seq (.reg [4] [] [
        ⟨some 4, .mv (.c (.v false (.int .i64 (-1)))), none⟩] none)
      (.ret))
     (.skip)))
   (.seq (.reg [1, 4] [] [
      ⟨some 11, .mv (.t 1), none⟩,
      ⟨some 4, .mv (.t 11), none⟩] none)
    (.ret))))

def pf218 : PF := ⟨[.s 4], [], pb218⟩

-- loop.example/g00496/laws.szRefS
def pb223 : PC :=
.seq (.reg [0, 1] [] [
   ⟨some 4, .mv (.c (.v false (.int .i64 0))), none⟩] none)
 (.seq (.reg [1] [] [
    ⟨some 5, .mv (.t 1), none⟩,
    ⟨some 6, .mv (.t 0), none⟩,
    ⟨some 7, .len (.t 6), none⟩,
    ⟨some 8, .bin .sub (.t 5) (.t 7), none⟩,
    ⟨some 1, .mv (.t 8), none⟩] none)
  (.seq (.seq (.reg [1, 10] [] [
      ⟨some 9, .mv (.t 1), none⟩,
      ⟨some 10, .bin .lss (.t 9) (.c (.v false (.int .i64 0))), none⟩] none)
    (.cond (.t 10) (.seq (.reg [4] [] [
        ⟨some 4, .mv (.c (.v false (.int .i64 (-1)))), none⟩] none)
      (.ret))
     (.skip)))
   (.seq (.reg [4] [] [
      ⟨some 11, .mv (.t 1), none⟩,
      ⟨some 4, .mv (.t 11), none⟩] none)
    (.ret))))

def pf223 : PF := ⟨[.s 4], [], pb223⟩

-- loop.example/g00496/laws.toDir
def pb243 : PC :=
.seq (.reg [1, 2] [] [
   ⟨some 1, .box 2 (.t 0), none⟩,
   ⟨some 2, .alloc [(.v false (.int .i64 0)), (.nl 5)], none⟩] none)
 (.seq (.reg [1, 2, 3] [] [
    ⟨some 3, .alloc [(.v false (.int .i64 0)), (.nl 5)], none⟩] none)
  (.seq (.reg [1, 2, 3] [] [
     ⟨some 4, .fad (.t 1) 0, none⟩,
     ⟨some 5, .ld false 1 (.t 4), none⟩,
     ⟨some 6, .fad (.t 3) 0, none⟩,
     ⟨none, .st 1 (.t 6) (.t 5), none⟩] none)
   (.seq (.reg [2, 3] [] [
      ⟨some 7, .fad (.t 1) 1, none⟩,
      ⟨some 8, .ld false 1 (.t 7), none⟩,
      ⟨some 9, .call 249 [] [(.t 8)], none⟩,
      ⟨some 10, .fad (.t 3) 1, none⟩,
      ⟨none, .st 1 (.t 10) (.t 9), none⟩] none)
    (.seq (.reg [2] [] [
       ⟨some 11, .ld true 2 (.t 3), none⟩,
       ⟨none, .st 2 (.t 2) (.t 11), none⟩] none)
     (.ret)))))

def pf243 : PF := ⟨[.b 2 2 true], [], pb243⟩

-- loop.example/g00496/laws.toRef
def pb248 : PC :=
.seq (.reg [1, 2] [] [
   ⟨some 1, .box 5 (.t 0), none⟩,
   ⟨some 2, .alloc [(.v false (.int .i64 0)), (.v false (.int .i64 0)), (.v false (.int .i64 0)), (.v false (.int .i64 0)), (.v false (.int .i64 0))], none⟩] none)
 (.seq (.reg [1, 2, 3] [] [
    ⟨some 3, .alloc [(.v false (.int .i64 0)), (.v false (.int .i64 0)), (.v false (.int .i64 0)), (.v false (.int .i64 0)), (.v false (.int .i64 0))], none⟩] none)
  (.seq (.reg [1, 2, 3] [] [
     ⟨some 4, .fad (.t 1) 0, none⟩,
     ⟨some 5, .ld false 1 (.t 4), none⟩,
     ⟨some 6, .fad (.t 3) 0, none⟩,
     ⟨none, .st 1 (.t 6) (.t 5), none⟩] none)
   (.seq (.reg [1, 2, 3] [] [
      ⟨some 7, .fad (.t 1) 1, none⟩,
      ⟨some 8, .ld false 1 (.t 7), none⟩,
      ⟨some 9, .fad (.t 3) 1, none⟩,
      ⟨none, .st 1 (.t 9) (.t 8), none⟩] none)
    (.seq (.reg [1, 2, 3] [] [
       ⟨some 10, .fad (.t 1) 2, none⟩,
       ⟨some 11, .ld false 1 (.t 10), none⟩,
       ⟨some 12, .fad (.t 3) 2, none⟩,
       ⟨none, .st 1 (.t 12) (.t 11), none⟩] none)
     (.seq (.reg [1, 2, 3] [] [
        ⟨some 13, .fad (.t 1) 3, none⟩,
        ⟨some 14, .ld false 1 (.t 13), none⟩,
        ⟨some 15, .fad (.t 3) 3, none⟩,
        ⟨none, .st 1 (.t 15) (.t 14), none⟩] none)
      (.seq (.reg [2, 3] [] [
         ⟨some 16, .fad (.t 1) 4, none⟩,
         ⟨some 17, .ld false 1 (.t 16), none⟩,
         ⟨some 18, .fad (.t 3) 4, none⟩,
         ⟨none, .st 1 (.t 18) (.t 17), none⟩] none)
       (.seq (.reg [2] [] [
          ⟨some 19, .ld true 5 (.t 3), none⟩,
          ⟨none, .st 5 (.t 2) (.t 19), none⟩] none)
        (.ret))))))))

def pf248 : PF := ⟨[.b 2 5 true], [], pb248⟩

-- loop.example/g00496/laws.toRefS
def pl249_0 : PC :=
.seq (.seq (.reg [0, 3, 4, 11] [] [
          ⟨some 8, .mv (.t 4), none⟩,
          ⟨some 9, .mv (.t 0), none⟩,
          ⟨some 10, .len (.t 9), none⟩,
          ⟨some 11, .bin .lss (.t 8) (.t 10), none⟩] none)
        (.cond (.t 11) (.skip)
         (.exit 0)))
       (.seq (.blk 1 (.reg [0, 3, 4] [] [
           ⟨some 14, .mv (.t 3), none⟩,
           ⟨some 15, .mv (.t 4), none⟩,
           ⟨some 16, .mv (.t 0), none⟩,
           ⟨some 17, .mv (.t 4), none⟩,
           ⟨some 18, .iad 5 (.t 16) (.t 17), none⟩,
           ⟨some 19, .ld true 5 (.t 18), none⟩,
           ⟨some 20, .call 248 [] [(.t 19)], none⟩,
           ⟨some 21, .iad 5 (.t 14) (.t 15), none⟩,
           ⟨none, .st 5 (.t 21) (.t 20), none⟩] none))
        (.reg [0, 3, 4] [] [
          ⟨some 12, .mv (.t 4), none⟩,
          ⟨some 13, .bin .add (.t 12) (.c (.v false (.int .i64 1))), none⟩,
          ⟨some 4, .mv (.t 13), none⟩] none))

def pb249 : PC :=
.seq (.reg [0] [] [
   ⟨some 2, .mv (.c (.nl 5)), none⟩] none)
 (.seq (.reg [0, 3] [(7, 3)] [
    ⟨some 5, .mv (.t 0), none⟩,
    ⟨some 6, .len (.t 5), none⟩,
    ⟨some 7, .mks 5 40 [.int .i64 0, .int .i64 0, .int .i64 0, .int .i64 0, .int .i64 0] (.t 6), none⟩,
    ⟨some 3, .mv (.t 7), none⟩] none)
  (.seq (.seq (.reg [0, 3, 4] [] [
      ⟨some 4, .mv (.c (.v false (.int .i64 0))), none⟩] none)
    (.blk 0 (.loop pl249_0)))
   (.seq (.reg [2, 3] [] [
      ⟨some 22, .mv (.t 3), none⟩,
      ⟨some 2, .mv (.t 22), none⟩] none)
    (.ret))))

def pf249 : PF := ⟨[.s 2], [], pb249⟩

-- loop.example/g00496/spec.RefAt
def pl322_0 : PC :=
.seq (.seq (.reg [1, 2, 5, 10] [] [
         ⟨some 6, .mv (.t 5), none⟩,
         ⟨some 7, .fad (.t 2) 1, none⟩,
         ⟨some 8, .ld false 1 (.t 7), none⟩,
         ⟨some 9, .len (.t 8), none⟩,
         ⟨some 10, .bin .lss (.t 6) (.t 9), none⟩] none)
       (.cond (.t 10) (.skip)
        (.exit 0)))
      (.seq (.blk 1 (.seq (.reg [1, 2, 5, 46] [] [
           ⟨some 13, .fad (.t 2) 1, none⟩,
           ⟨some 14, .ld false 1 (.t 13), none⟩,
           ⟨some 15, .mv (.t 5), none⟩,
           ⟨some 16, .iad 5 (.t 14) (.t 15), none⟩,
           ⟨some 17, .fad (.t 16) 3, none⟩,
           ⟨some 18, .ld false 1 (.t 17), none⟩,
           ⟨some 19, .bin .geq (.t 18) (.c (.v false (.int .i64 0))), none⟩,
           ⟨some 20, .mv (.t 19), none⟩,
           ⟨some 21, .mv (.t 1), some (20, true)⟩,
           ⟨some 22, .fad (.t 2) 1, some (20, true)⟩,
           ⟨some 23, .ld false 1 (.t 22), some (20, true)⟩,
           ⟨some 24, .mv (.t 5), some (20, true)⟩,
           ⟨some 25, .iad 5 (.t 23) (.t 24), some (20, true)⟩,
           ⟨some 26, .fad (.t 25) 3, some (20, true)⟩,
           ⟨some 27, .ld false 1 (.t 26), some (20, true)⟩,
           ⟨some 28, .bin .geq (.t 21) (.t 27), some (20, true)⟩,
           ⟨some 29, .pick (.t 20) (.t 28) (.c (.v false (.bool false))), none⟩,
           ⟨some 30, .mv (.t 29), none⟩,
           ⟨some 31, .mv (.t 1), some (30, true)⟩,
           ⟨some 32, .fad (.t 2) 1, some (30, true)⟩,
           ⟨some 33, .ld false 1 (.t 32), some (30, true)⟩,
           ⟨some 34, .mv (.t 5), some (30, true)⟩,
           ⟨some 35, .iad 5 (.t 33) (.t 34), some (30, true)⟩,
           ⟨some 36, .fad (.t 35) 3, some (30, true)⟩,
           ⟨some 37, .ld false 1 (.t 36), some (30, true)⟩,
           ⟨some 38, .bin .sub (.t 31) (.t 37), some (30, true)⟩,
           ⟨some 39, .fad (.t 2) 1, some (30, true)⟩,
           ⟨some 40, .ld false 1 (.t 39), some (30, true)⟩,
           ⟨some 41, .mv (.t 5), some (30, true)⟩,
           ⟨some 42, .iad 5 (.t 40) (.t 41), some (30, true)⟩,
           ⟨some 43, .fad (.t 42) 4, some (30, true)⟩,
           ⟨some 44, .ld false 1 (.t 43), some (30, true)⟩,
           ⟨some 45, .bin .lss (.t 38) (.t 44), some (30, true)⟩,
           ⟨some 46, .pick (.t 30) (.t 45) (.c (.v false (.bool false))), none⟩] (some []))
         (.cond (.t 46) (.seq (.reg [4] [] [
             ⟨some 47, .mv (.t 5), none⟩,
             ⟨some 4, .mv (.t 47), none⟩] none)
           (.ret))
          (.skip))))
       (.reg [1, 2, 5] [] [
         ⟨some 11, .mv (.t 5), none⟩,
         ⟨some 12, .bin .add (.t 11) (.c (.v false (.int .i64 1))), none⟩,
         ⟨some 5, .mv (.t 12), none⟩] none))

def pb322 : PC :=
.seq (.reg [1, 2] [] [
   ⟨some 2, .box 2 (.t 0), none⟩,
   ⟨some 4, .mv (.c (.v false (.int .i64 0))), none⟩] none)
 (.seq (.seq (.reg [1, 2, 5] [] [
     ⟨some 5, .mv (.c (.v false (.int .i64 0))), none⟩] none)
   (.blk 0 (.loop pl322_0)))
  (.seq (.reg [4] [] [
     ⟨some 4, .mv (.c (.v false (.int .i64 (-1)))), none⟩] none)
   (.ret)))

def pf322 : PF := ⟨[.s 4], [], pb322⟩

end Go.Proofs.Ytkhgflloifjniaa.OM
