/- The texts of the functions, as the own machine runs them. -/
import Derived.Test.YtkhgflloifjniaaOMDef
set_option linter.all false
namespace Go.Proofs.Ytkhgflloifjniaa.OM
set_option maxRecDepth 100000

-- loop.example/g00496/impl.SameDir
def pb47 : PC :=
.seq (.reg [2, 3] [] [
   ⟨some 2, .box 2 (.t 0), none⟩,
   ⟨some 3, .box 2 (.t 1), none⟩,
   ⟨some 4, .mv (.c (.v false (.bool false))), none⟩] none)
 (.seq (.reg [4] [(15, 4)] [
    ⟨some 5, .fad (.t 2) 0, none⟩,
    ⟨some 6, .ld false 1 (.t 5), none⟩,
    ⟨some 7, .fad (.t 3) 0, none⟩,
    ⟨some 8, .ld false 1 (.t 7), none⟩,
    ⟨some 9, .bin .eql (.t 6) (.t 8), none⟩,
    ⟨some 10, .mv (.t 9), none⟩,
    ⟨some 11, .fad (.t 2) 1, some (10, true)⟩,
    ⟨some 12, .ld false 1 (.t 11), some (10, true)⟩,
    ⟨some 13, .fad (.t 3) 1, some (10, true)⟩,
    ⟨some 14, .ld false 1 (.t 13), some (10, true)⟩,
    ⟨some 15, .call 403 [] [(.t 12), (.t 14)], some (10, true)⟩,
    ⟨some 16, .pick (.t 10) (.t 15) (.c (.v false (.bool false))), none⟩,
    ⟨some 4, .mv (.t 16), none⟩] none)
  (.ret))

def pf47 : PF := ⟨[.s 4], [], pb47⟩

-- loop.example/g00496/laws.FnExactSameDir
def pb126 : PC :=
.seq (.reg [2, 3] [] [
   ⟨some 2, .box 2 (.t 0), none⟩,
   ⟨some 3, .box 2 (.t 1), none⟩,
   ⟨some 4, .mv (.c (.v false (.bool false))), none⟩] none)
 (.seq (.reg [2, 3, 5] [] [
    ⟨some 5, .mv (.c (.v false (.int .i64 1048576))), none⟩] none)
  (.seq (.reg [2, 3, 5] [(12, 5)] [
     ⟨some 10, .ld true 2 (.t 2), none⟩,
     ⟨some 11, .mv (.t 5), none⟩,
     ⟨some 12, .call 218 [] [(.t 10), (.t 11)], none⟩,
     ⟨some 5, .mv (.t 12), none⟩] none)
   (.seq (.seq (.reg [2, 3, 5, 14] [] [
       ⟨some 13, .mv (.t 5), none⟩,
       ⟨some 14, .bin .lss (.t 13) (.c (.v false (.int .i64 0))), none⟩] none)
     (.cond (.t 14) (.seq (.reg [4] [] [
         ⟨some 4, .mv (.c (.v false (.bool true))), none⟩] none)
       (.ret))
      (.skip)))
    (.seq (.reg [2, 3, 5] [(17, 5)] [
       ⟨some 15, .ld true 2 (.t 3), none⟩,
       ⟨some 16, .mv (.t 5), none⟩,
       ⟨some 17, .call 218 [] [(.t 15), (.t 16)], none⟩,
       ⟨some 5, .mv (.t 17), none⟩] none)
     (.seq (.seq (.reg [2, 3, 19] [] [
         ⟨some 18, .mv (.t 5), none⟩,
         ⟨some 19, .bin .lss (.t 18) (.c (.v false (.int .i64 0))), none⟩] none)
       (.cond (.t 19) (.seq (.reg [4] [] [
           ⟨some 4, .mv (.c (.v false (.bool true))), none⟩] none)
         (.ret))
        (.skip)))
      (.seq (.reg [2, 3, 6] [(24, 6)] [
         ⟨some 20, .ld true 2 (.t 2), none⟩,
         ⟨some 21, .call 243 [] [(.t 20)], none⟩,
         ⟨some 22, .ld true 2 (.t 3), none⟩,
         ⟨some 23, .call 243 [] [(.t 22)], none⟩,
         ⟨some 24, .call 328 [] [(.t 21), (.t 23)], none⟩,
         ⟨some 6, .mv (.t 24), none⟩] (some [(1, 2)]))
       (.seq (.reg [2, 3, 6, 7] [] [
          ⟨some 25, .ld true 2 (.t 2), none⟩,
          ⟨some 26, .call 243 [] [(.t 25)], none⟩,
          ⟨some 7, .alloc [(.v false (.int .i64 0)), (.nl 5)], none⟩,
          ⟨none, .st 2 (.t 7) (.t 26), none⟩] none)
        (.seq (.reg [2, 3, 6, 7, 8] [] [
           ⟨some 27, .ld true 2 (.t 3), none⟩,
           ⟨some 28, .call 243 [] [(.t 27)], none⟩,
           ⟨some 8, .alloc [(.v false (.int .i64 0)), (.nl 5)], none⟩,
           ⟨none, .st 2 (.t 8) (.t 28), none⟩] none)
         (.seq (.reg [2, 3, 6, 7, 8, 9] [(31, 9)] [
            ⟨some 29, .ld true 2 (.t 7), none⟩,
            ⟨some 30, .ld true 2 (.t 8), none⟩,
            ⟨some 31, .call 47 [] [(.t 29), (.t 30)], none⟩,
            ⟨some 9, .mv (.t 31), none⟩] none)
          (.seq (.seq (.reg [2, 3, 7, 8, 34] [] [
              ⟨some 32, .mv (.t 9), none⟩,
              ⟨some 33, .mv (.t 6), none⟩,
              ⟨some 34, .eqb true (.t 32) (.t 33), none⟩] none)
            (.cond (.t 34) (.seq (.reg [4] [] [
                ⟨some 4, .mv (.c (.v false (.bool false))), none⟩] none)
              (.ret))
             (.skip)))
           (.seq (.seq (.reg [3, 8, 39] [] [
               ⟨some 35, .ld true 2 (.t 7), none⟩,
               ⟨some 36, .ld true 2 (.t 2), none⟩,
               ⟨some 37, .call 243 [] [(.t 36)], none⟩,
               ⟨some 38, .call 151 [] [(.t 35), (.t 37)], none⟩,
               ⟨some 39, .un .not (.t 38), none⟩] (some [(0, 2)]))
             (.cond (.t 39) (.seq (.reg [4] [] [
                 ⟨some 4, .mv (.c (.v false (.bool false))), none⟩] none)
               (.ret))
              (.skip)))
            (.seq (.seq (.reg [44] [] [
                ⟨some 40, .ld true 2 (.t 8), none⟩,
                ⟨some 41, .ld true 2 (.t 3), none⟩,
                ⟨some 42, .call 243 [] [(.t 41)], none⟩,
                ⟨some 43, .call 151 [] [(.t 40), (.t 42)], none⟩,
                ⟨some 44, .un .not (.t 43), none⟩] (some [(0, 2)]))
              (.cond (.t 44) (.seq (.reg [4] [] [
                  ⟨some 4, .mv (.c (.v false (.bool false))), none⟩] none)
                (.ret))
               (.skip)))
             (.seq (.reg [4] [] [
                ⟨some 4, .mv (.c (.v false (.bool true))), none⟩] none)
              (.ret))))))))))))))

def pf126 : PF := ⟨[.s 4], [], pb126⟩

-- loop.example/g00496/laws.eqDir
def pb151 : PC :=
.seq (.reg [2, 3] [] [
   ⟨some 2, .box 2 (.t 0), none⟩,
   ⟨some 3, .box 2 (.t 1), none⟩,
   ⟨some 4, .mv (.c (.v false (.bool false))), none⟩] none)
 (.seq (.seq (.reg [2, 3, 9] [] [
     ⟨some 5, .fad (.t 2) 0, none⟩,
     ⟨some 6, .ld false 1 (.t 5), none⟩,
     ⟨some 7, .fad (.t 3) 0, none⟩,
     ⟨some 8, .ld false 1 (.t 7), none⟩,
     ⟨some 9, .bin .neq (.t 6) (.t 8), none⟩] none)
   (.cond (.t 9) (.seq (.reg [4] [] [
       ⟨some 4, .mv (.c (.v false (.bool false))), none⟩] none)
     (.ret))
    (.skip)))
  (.seq (.seq (.reg [15] [] [
      ⟨some 10, .fad (.t 2) 1, none⟩,
      ⟨some 11, .ld false 1 (.t 10), none⟩,
      ⟨some 12, .fad (.t 3) 1, none⟩,
      ⟨some 13, .ld false 1 (.t 12), none⟩,
      ⟨some 14, .call 157 [] [(.t 11), (.t 13)], none⟩,
      ⟨some 15, .un .not (.t 14), none⟩] none)
    (.cond (.t 15) (.seq (.reg [4] [] [
        ⟨some 4, .mv (.c (.v false (.bool false))), none⟩] none)
      (.ret))
     (.skip)))
   (.seq (.reg [4] [] [
      ⟨some 4, .mv (.c (.v false (.bool true))), none⟩] none)
    (.ret))))

def pf151 : PF := ⟨[.s 4], [], pb151⟩

-- loop.example/g00496/laws.eqRef
def pb156 : PC :=
.seq (.reg [2, 3] [] [
   ⟨some 2, .box 5 (.t 0), none⟩,
   ⟨some 3, .box 5 (.t 1), none⟩,
   ⟨some 4, .mv (.c (.v false (.bool false))), none⟩] none)
 (.seq (.seq (.reg [2, 3, 9] [] [
     ⟨some 5, .fad (.t 2) 0, none⟩,
     ⟨some 6, .ld false 1 (.t 5), none⟩,
     ⟨some 7, .fad (.t 3) 0, none⟩,
     ⟨some 8, .ld false 1 (.t 7), none⟩,
     ⟨some 9, .bin .neq (.t 6) (.t 8), none⟩] none)
   (.cond (.t 9) (.seq (.reg [4] [] [
       ⟨some 4, .mv (.c (.v false (.bool false))), none⟩] none)
     (.ret))
    (.skip)))
  (.seq (.seq (.reg [2, 3, 14] [] [
      ⟨some 10, .fad (.t 2) 1, none⟩,
      ⟨some 11, .ld false 1 (.t 10), none⟩,
      ⟨some 12, .fad (.t 3) 1, none⟩,
      ⟨some 13, .ld false 1 (.t 12), none⟩,
      ⟨some 14, .bin .neq (.t 11) (.t 13), none⟩] none)
    (.cond (.t 14) (.seq (.reg [4] [] [
        ⟨some 4, .mv (.c (.v false (.bool false))), none⟩] none)
      (.ret))
     (.skip)))
   (.seq (.seq (.reg [2, 3, 19] [] [
       ⟨some 15, .fad (.t 2) 2, none⟩,
       ⟨some 16, .ld false 1 (.t 15), none⟩,
       ⟨some 17, .fad (.t 3) 2, none⟩,
       ⟨some 18, .ld false 1 (.t 17), none⟩,
       ⟨some 19, .bin .neq (.t 16) (.t 18), none⟩] none)
     (.cond (.t 19) (.seq (.reg [4] [] [
         ⟨some 4, .mv (.c (.v false (.bool false))), none⟩] none)
       (.ret))
      (.skip)))
    (.seq (.seq (.reg [2, 3, 24] [] [
        ⟨some 20, .fad (.t 2) 3, none⟩,
        ⟨some 21, .ld false 1 (.t 20), none⟩,
        ⟨some 22, .fad (.t 3) 3, none⟩,
        ⟨some 23, .ld false 1 (.t 22), none⟩,
        ⟨some 24, .bin .neq (.t 21) (.t 23), none⟩] none)
      (.cond (.t 24) (.seq (.reg [4] [] [
          ⟨some 4, .mv (.c (.v false (.bool false))), none⟩] none)
        (.ret))
       (.skip)))
     (.seq (.seq (.reg [29] [] [
         ⟨some 25, .fad (.t 2) 4, none⟩,
         ⟨some 26, .ld false 1 (.t 25), none⟩,
         ⟨some 27, .fad (.t 3) 4, none⟩,
         ⟨some 28, .ld false 1 (.t 27), none⟩,
         ⟨some 29, .bin .neq (.t 26) (.t 28), none⟩] none)
       (.cond (.t 29) (.seq (.reg [4] [] [
           ⟨some 4, .mv (.c (.v false (.bool false))), none⟩] none)
         (.ret))
        (.skip)))
      (.seq (.reg [4] [] [
         ⟨some 4, .mv (.c (.v false (.bool true))), none⟩] none)
       (.ret)))))))

def pf156 : PF := ⟨[.s 4], [], pb156⟩

-- loop.example/g00496/laws.eqRefS
def pl157_0 : PC :=
.seq (.seq (.reg [0, 1, 5, 14] [] [
          ⟨some 11, .mv (.t 5), none⟩,
          ⟨some 12, .mv (.t 0), none⟩,
          ⟨some 13, .len (.t 12), none⟩,
          ⟨some 14, .bin .lss (.t 11) (.t 13), none⟩] none)
        (.cond (.t 14) (.skip)
         (.exit 0)))
       (.seq (.blk 1 (.seq (.reg [0, 1, 5, 26] [] [
            ⟨some 17, .mv (.t 0), none⟩,
            ⟨some 18, .mv (.t 5), none⟩,
            ⟨some 19, .iad 5 (.t 17) (.t 18), none⟩,
            ⟨some 20, .ld true 5 (.t 19), none⟩,
            ⟨some 21, .mv (.t 1), none⟩,
            ⟨some 22, .mv (.t 5), none⟩,
            ⟨some 23, .iad 5 (.t 21) (.t 22), none⟩,
            ⟨some 24, .ld true 5 (.t 23), none⟩,
            ⟨some 25, .call 156 [] [(.t 20), (.t 24)], none⟩,
            ⟨some 26, .un .not (.t 25), none⟩] (some []))
          (.cond (.t 26) (.seq (.reg [4] [] [
              ⟨some 4, .mv (.c (.v false (.bool false))), none⟩] none)
            (.ret))
           (.skip))))
        (.reg [0, 1, 5] [] [
          ⟨some 15, .mv (.t 5), none⟩,
          ⟨some 16, .bin .add (.t 15) (.c (.v false (.int .i64 1))), none⟩,
          ⟨some 5, .mv (.t 16), none⟩] none))

def pb157 : PC :=
.seq (.reg [0, 1] [] [
   ⟨some 4, .mv (.c (.v false (.bool false))), none⟩] none)
 (.seq (.seq (.reg [0, 1, 10] [] [
     ⟨some 6, .mv (.t 0), none⟩,
     ⟨some 7, .len (.t 6), none⟩,
     ⟨some 8, .mv (.t 1), none⟩,
     ⟨some 9, .len (.t 8), none⟩,
     ⟨some 10, .bin .neq (.t 7) (.t 9), none⟩] none)
   (.cond (.t 10) (.seq (.reg [4] [] [
       ⟨some 4, .mv (.c (.v false (.bool false))), none⟩] none)
     (.ret))
    (.skip)))
  (.seq (.seq (.reg [0, 1, 5] [] [
      ⟨some 5, .mv (.c (.v false (.int .i64 0))), none⟩] none)
    (.blk 0 (.loop pl157_0)))
   (.seq (.reg [4] [] [
      ⟨some 4, .mv (.c (.v false (.bool true))), none⟩] none)
    (.ret))))

def pf157 : PF := ⟨[.s 4], [], pb157⟩

-- loop.example/g00496/laws.szDir
def pb218 : PC :=
.seq (.reg [1, 2] [] [
   ⟨some 2, .box 2 (.t 0), none⟩,
   ⟨some 4, .mv (.c (.v false (.int .i64 0))), none⟩] none)
 (.seq (.reg [1] [(8, 1)] [
    ⟨some 5, .fad (.t 2) 1, none⟩,
    ⟨some 6, .ld false 1 (.t 5), none⟩,
    ⟨some 7, .mv (.t 1), none⟩,
    ⟨some 8, .call 223 [] [(.t 6), (.t 7)], none⟩,
    ⟨some 1, .mv (.t 8), none⟩] none)
  (.seq (.seq (.reg [1, 10] [] [
      ⟨some 9, .mv (.t 1), none⟩,
      ⟨some 10, .bin .lss (.t 9) (.c (.v false (.int .i64 0))), none⟩] none)
    (.cond (.t 10) (.seq (.reg [4] [] [
        ⟨some 4, .mv (.c (.v false (.int .i64 (-1)))), none⟩] none)
      (.ret))
     (.skip)))
   (.seq (.reg [1, 4] [] [
      ⟨some 11, .mv (.t 1), none⟩,
      ⟨some 4, .mv (.t 11), none⟩] none)
    (.ret))))

def pf218 : PF := ⟨[.s 4], [], pb218⟩

-- loop.example/g00496/laws.szRefS
def pb223 : PC :=
.seq (.reg [0, 1] [] [
   ⟨some 4, .mv (.c (.v false (.int .i64 0))), none⟩] none)
 (.seq (.reg [1] [] [
    ⟨some 5, .mv (.t 1), none⟩,
    ⟨some 6, .mv (.t 0), none⟩,
    ⟨some 7, .len (.t 6), none⟩,
    ⟨some 8, .bin .sub (.t 5) (.t 7), none⟩,
    ⟨some 1, .mv (.t 8), none⟩] none)
  (.seq (.seq (.reg [1, 10] [] [
      ⟨some 9, .mv (.t 1), none⟩,
      ⟨some 10, .bin .lss (.t 9) (.c (.v false (.int .i64 0))), none⟩] none)
    (.cond (.t 10) (.seq (.reg [4] [] [
        ⟨some 4, .mv (.c (.v false (.int .i64 (-1)))), none⟩] none)
      (.ret))
     (.skip)))
   (.seq (.reg [4] [] [
      ⟨some 11, .mv (.t 1), none⟩,
      ⟨some 4, .mv (.t 11), none⟩] none)
    (.ret))))

def pf223 : PF := ⟨[.s 4], [], pb223⟩

-- loop.example/g00496/laws.toDir
def pb243 : PC :=
.seq (.reg [1, 2] [] [
   ⟨some 1, .box 2 (.t 0), none⟩,
   ⟨some 2, .alloc [(.v false (.int .i64 0)), (.nl 5)], none⟩] none)
 (.seq (.reg [1, 2, 3] [] [
    ⟨some 3, .alloc [(.v false (.int .i64 0)), (.nl 5)], none⟩] none)
  (.seq (.reg [1, 2, 3] [] [
     ⟨some 4, .fad (.t 1) 0, none⟩,
     ⟨some 5, .ld false 1 (.t 4), none⟩,
     ⟨some 6, .fad (.t 3) 0, none⟩,
     ⟨none, .st 1 (.t 6) (.t 5), none⟩] none)
   (.seq (.reg [2, 3] [] [
      ⟨some 7, .fad (.t 1) 1, none⟩,
      ⟨some 8, .ld false 1 (.t 7), none⟩,
      ⟨some 9, .call 249 [] [(.t 8)], none⟩,
      ⟨some 10, .fad (.t 3) 1, none⟩,
      ⟨none, .st 1 (.t 10) (.t 9), none⟩] none)
    (.seq (.reg [2] [] [
       ⟨some 11, .ld true 2 (.t 3), none⟩,
       ⟨none, .st 2 (.t 2) (.t 11), none⟩] none)
     (.ret)))))

def pf243 : PF := ⟨[.b 2 2 true], [], pb243⟩

-- loop.example/g00496/laws.toRef
def pb248 : PC :=
.seq (.reg [1, 2] [] [
   ⟨some 1, .box 5 (.t 0), none⟩,
   ⟨some 2, .alloc [(.v false (.int .i64 0)), (.v false (.int .i64 0)), (.v false (.int .i64 0)), (.v false (.int .i64 0)), (.v false (.int .i64 0))], none⟩] none)
 (.seq (.reg [1, 2, 3] [] [
    ⟨some 3, .alloc [(.v false (.int .i64 0)), (.v false (.int .i64 0)), (.v false (.int .i64 0)), (.v false (.int .i64 0)), (.v false (.int .i64 0))], none⟩] none)
  (.seq (.reg [1, 2, 3] [] [
     ⟨some 4, .fad (.t 1) 0, none⟩,
     ⟨some 5, .ld false 1 (.t 4), none⟩,
     ⟨some 6, .fad (.t 3) 0, none⟩,
     ⟨none, .st 1 (.t 6) (.t 5), none⟩] none)
   (.seq (.reg [1, 2, 3] [] [
      ⟨some 7, .fad (.t 1) 1, none⟩,
      ⟨some 8, .ld false 1 (.t 7), none⟩,
      ⟨some 9, .fad (.t 3) 1, none⟩,
      ⟨none, .st 1 (.t 9) (.t 8), none⟩] none)
    (.seq (.reg [1, 2, 3] [] [
       ⟨some 10, .fad (.t 1) 2, none⟩,
       ⟨some 11, .ld false 1 (.t 10), none⟩,
       ⟨some 12, .fad (.t 3) 2, none⟩,
       ⟨none, .st 1 (.t 12) (.t 11), none⟩] none)
     (.seq (.reg [1, 2, 3] [] [
        ⟨some 13, .fad (.t 1) 3, none⟩,
        ⟨some 14, .ld false 1 (.t 13), none⟩,
        ⟨some 15, .fad (.t 3) 3, none⟩,
        ⟨none, .st 1 (.t 15) (.t 14), none⟩] none)
      (.seq (.reg [2, 3] [] [
         ⟨some 16, .fad (.t 1) 4, none⟩,
         ⟨some 17, .ld false 1 (.t 16), none⟩,
         ⟨some 18, .fad (.t 3) 4, none⟩,
         ⟨none, .st 1 (.t 18) (.t 17), none⟩] none)
       (.seq (.reg [2] [] [
          ⟨some 19, .ld true 5 (.t 3), none⟩,
          ⟨none, .st 5 (.t 2) (.t 19), none⟩] none)
        (.ret))))))))

def pf248 : PF := ⟨[.b 2 5 true], [], pb248⟩

-- loop.example/g00496/laws.toRefS
def pl249_0 : PC :=
.seq (.seq (.reg [0, 3, 4, 11] [] [
          ⟨some 8, .mv (.t 4), none⟩,
          ⟨some 9, .mv (.t 0), none⟩,
          ⟨some 10, .len (.t 9), none⟩,
          ⟨some 11, .bin .lss (.t 8) (.t 10), none⟩] none)
        (.cond (.t 11) (.skip)
         (.exit 0)))
       (.seq (.blk 1 (.reg [0, 3, 4] [] [
           ⟨some 14, .mv (.t 3), none⟩,
           ⟨some 15, .mv (.t 4), none⟩,
           ⟨some 16, .mv (.t 0), none⟩,
           ⟨some 17, .mv (.t 4), none⟩,
           ⟨some 18, .iad 5 (.t 16) (.t 17), none⟩,
           ⟨some 19, .ld true 5 (.t 18), none⟩,
           ⟨some 20, .call 248 [] [(.t 19)], none⟩,
           ⟨some 21, .iad 5 (.t 14) (.t 15), none⟩,
           ⟨none, .st 5 (.t 21) (.t 20), none⟩] none))
        (.reg [0, 3, 4] [] [
          ⟨some 12, .mv (.t 4), none⟩,
          ⟨some 13, .bin .add (.t 12) (.c (.v false (.int .i64 1))), none⟩,
          ⟨some 4, .mv (.t 13), none⟩] none))

def pb249 : PC :=
.seq (.reg [0] [] [
   ⟨some 2, .mv (.c (.nl 5)), none⟩] none)
 (.seq (.reg [0, 3] [(7, 3)] [
    ⟨some 5, .mv (.t 0), none⟩,
    ⟨some 6, .len (.t 5), none⟩,
    ⟨some 7, .mks 5 40 [.int .i64 0, .int .i64 0, .int .i64 0, .int .i64 0, .int .i64 0] (.t 6), none⟩,
    ⟨some 3, .mv (.t 7), none⟩] none)
  (.seq (.seq (.reg [0, 3, 4] [] [
      ⟨some 4, .mv (.c (.v false (.int .i64 0))), none⟩] none)
    (.blk 0 (.loop pl249_0)))
   (.seq (.reg [2, 3] [] [
      ⟨some 22, .mv (.t 3), none⟩,
      ⟨some 2, .mv (.t 22), none⟩] none)
    (.ret))))

def pf249 : PF := ⟨[.s 2], [], pb249⟩

-- loop.example/g00496/spec.SameDir
def pl328_0 : PC :=
.seq (.seq (.reg [2, 3, 5, 24] [] [
          ⟨some 20, .mv (.t 5), none⟩,
          ⟨some 21, .fad (.t 2) 1, none⟩,
          ⟨some 22, .ld false 1 (.t 21), none⟩,
          ⟨some 23, .len (.t 22), none⟩,
          ⟨some 24, .bin .lss (.t 20) (.t 23), none⟩] none)
        (.cond (.t 24) (.skip)
         (.exit 0)))
       (.seq (.blk 1 (.seq (.reg [2, 3, 5, 37] [] [
            ⟨some 27, .fad (.t 2) 1, none⟩,
            ⟨some 28, .ld false 1 (.t 27), none⟩,
            ⟨some 29, .mv (.t 5), none⟩,
            ⟨some 30, .iad 5 (.t 28) (.t 29), none⟩,
            ⟨some 31, .ld true 5 (.t 30), none⟩,
            ⟨some 32, .fad (.t 3) 1, none⟩,
            ⟨some 33, .ld false 1 (.t 32), none⟩,
            ⟨some 34, .mv (.t 5), none⟩,
            ⟨some 35, .iad 5 (.t 33) (.t 34), none⟩,
            ⟨some 36, .ld true 5 (.t 35), none⟩,
            ⟨some 37, .eqs true [0, 0, 0, 0, 0] (.t 31) (.t 36), none⟩] (some []))
          (.cond (.t 37) (.seq (.reg [4] [] [
              ⟨some 4, .mv (.c (.v false (.bool false))), none⟩] none)
            (.ret))
           (.skip))))
        (.reg [2, 3, 5] [] [
          ⟨some 25, .mv (.t 5), none⟩,
          ⟨some 26, .bin .add (.t 25) (.c (.v false (.int .i64 1))), none⟩,
          ⟨some 5, .mv (.t 26), none⟩] none))

def pb328 : PC :=
.seq (.reg [2, 3] [] [
   ⟨some 2, .box 2 (.t 0), none⟩,
   ⟨some 3, .box 2 (.t 1), none⟩,
   ⟨some 4, .mv (.c (.v false (.bool false))), none⟩] none)
 (.seq (.seq (.reg [2, 3, 19] [] [
     ⟨some 6, .fad (.t 2) 0, none⟩,
     ⟨some 7, .ld false 1 (.t 6), none⟩,
     ⟨some 8, .fad (.t 3) 0, none⟩,
     ⟨some 9, .ld false 1 (.t 8), none⟩,
     ⟨some 10, .bin .neq (.t 7) (.t 9), none⟩,
     ⟨some 11, .mv (.t 10), none⟩,
     ⟨some 12, .fad (.t 2) 1, some (11, false)⟩,
     ⟨some 13, .ld false 1 (.t 12), some (11, false)⟩,
     ⟨some 14, .len (.t 13), some (11, false)⟩,
     ⟨some 15, .fad (.t 3) 1, some (11, false)⟩,
     ⟨some 16, .ld false 1 (.t 15), some (11, false)⟩,
     ⟨some 17, .len (.t 16), some (11, false)⟩,
     ⟨some 18, .bin .neq (.t 14) (.t 17), some (11, false)⟩,
     ⟨some 19, .pick (.t 11) (.c (.v false (.bool true))) (.t 18), none⟩] none)
   (.cond (.t 19) (.seq (.reg [4] [] [
       ⟨some 4, .mv (.c (.v false (.bool false))), none⟩] none)
     (.ret))
    (.skip)))
  (.seq (.seq (.reg [2, 3, 5] [] [
      ⟨some 5, .mv (.c (.v false (.int .i64 0))), none⟩] none)
    (.blk 0 (.loop pl328_0)))
   (.seq (.reg [4] [] [
      ⟨some 4, .mv (.c (.v false (.bool true))), none⟩] none)
    (.ret))))

def pf328 : PF := ⟨[.s 4], [], pb328⟩

-- slices.Equal[[]loop.example/g00496/impl.Ref,loop.example/g00496/impl.Ref]
def pl403_0 : PC :=
.seq (.reg [0, 1, 12, 13, 14] [] [
         ⟨some 14, .bin .lss (.t 13) (.t 12), none⟩] none)
       (.seq (.cond (.t 14) (.skip)
         (.exit 0))
        (.seq (.blk 1 (.seq (.reg [0, 1, 5, 12, 13] [] [
             ⟨some 15, .mv (.t 13), none⟩,
             ⟨some 5, .mv (.t 15), none⟩] none)
           (.seq (.reg [0, 1, 12, 13, 24] [] [
              ⟨some 16, .mv (.t 0), none⟩,
              ⟨some 17, .mv (.t 5), none⟩,
              ⟨some 18, .iad 5 (.t 16) (.t 17), none⟩,
              ⟨some 19, .ld true 5 (.t 18), none⟩,
              ⟨some 20, .mv (.t 1), none⟩,
              ⟨some 21, .mv (.t 5), none⟩,
              ⟨some 22, .iad 5 (.t 20) (.t 21), none⟩,
              ⟨some 23, .ld true 5 (.t 22), none⟩,
              ⟨some 24, .eqs true [0, 0, 0, 0, 0] (.t 19) (.t 23), none⟩] (some []))
            (.cond (.t 24) (.seq (.reg [4] [] [
                ⟨some 4, .mv (.c (.v false (.bool false))), none⟩] none)
              (.ret))
             (.skip)))))
         (.reg [0, 1, 12, 13] [] [
           ⟨some 25, .bin .add (.t 13) (.c (.v false (.int .i64 1))), none⟩,
           ⟨some 13, .mv (.t 25), none⟩] none)))

def pb403 : PC :=
.seq (.reg [0, 1] [] [
   ⟨some 4, .mv (.c (.v false (.bool false))), none⟩] none)
 (.seq (.seq (.reg [0, 1, 10] [] [
     ⟨some 6, .mv (.t 0), none⟩,
     ⟨some 7, .len (.t 6), none⟩,
     ⟨some 8, .mv (.t 1), none⟩,
     ⟨some 9, .len (.t 8), none⟩,
     ⟨some 10, .bin .neq (.t 7) (.t 9), none⟩] none)
   (.cond (.t 10) (.seq (.reg [4] [] [
       ⟨some 4, .mv (.c (.v false (.bool false))), none⟩] none)
     (.ret))
    (.skip)))
  (.seq (.seq (.reg [0, 1, 12, 13] [] [
      ⟨some 11, .mv (.t 0), none⟩,
      ⟨some 12, .len (.t 11), none⟩,
      ⟨some 13, .mv (.c (.v false (.int .i64 0))), none⟩] none)
    (.blk 0 (.loop pl403_0)))
   (.seq (.reg [4] [] [
      ⟨some 4, .mv (.c (.v false (.bool true))), none⟩] none)
    (.ret))))

def pf403 : PF := ⟨[.s 4], [], pb403⟩

end Go.Proofs.Ytkhgflloifjniaa.OM
