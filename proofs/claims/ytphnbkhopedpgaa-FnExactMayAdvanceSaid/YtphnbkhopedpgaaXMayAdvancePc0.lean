/- The texts of the functions, as the own machine runs them. -/
import Derived.Test.YtphnbkhopedpgaaOMDef
set_option linter.all false
namespace Go.Proofs.Ytphnbkhopedpgaa.OM
set_option maxRecDepth 100000

-- loop.example/g00496/impl.MayAdvance
def pl31_0 : PC :=
.seq (.reg [1, 7, 8, 9, 10] [] [
        ⟨some 10, .bin .lss (.t 9) (.t 8), none⟩] none)
      (.seq (.cond (.t 10) (.skip)
        (.exit 0))
       (.seq (.blk 1 (.seq (.reg [1, 6, 7, 8, 9] [] [
            ⟨some 11, .iad 1 (.t 7) (.t 9), none⟩,
            ⟨some 12, .ld false 1 (.t 11), none⟩,
            ⟨some 6, .mv (.t 12), none⟩] none)
          (.seq (.reg [1, 7, 8, 9, 19] [] [
             ⟨some 13, .mv (.t 6), none⟩,
             ⟨some 14, .bin .neq (.t 13) (.c (.v false (.int .i64 (-1)))), none⟩,
             ⟨some 15, .mv (.t 14), none⟩,
             ⟨some 16, .mv (.t 6), some (15, true)⟩,
             ⟨some 17, .mv (.t 1), some (15, true)⟩,
             ⟨some 18, .bin .neq (.t 16) (.t 17), some (15, true)⟩,
             ⟨some 19, .pick (.t 15) (.t 18) (.c (.v false (.bool false))), none⟩] none)
           (.cond (.t 19) (.seq (.reg [4] [] [
               ⟨some 4, .mv (.c (.v false (.bool false))), none⟩] none)
             (.ret))
            (.skip)))))
        (.reg [1, 7, 8, 9] [] [
          ⟨some 20, .bin .add (.t 9) (.c (.v false (.int .i64 1))), none⟩,
          ⟨some 9, .mv (.t 20), none⟩] none)))

def pb31 : PC :=
.seq (.reg [0, 1] [] [
   ⟨some 4, .mv (.c (.v false (.bool false))), none⟩] none)
 (.seq (.seq (.reg [1, 7, 8, 9] [] [
     ⟨some 7, .mv (.t 0), none⟩,
     ⟨some 8, .len (.t 7), none⟩,
     ⟨some 9, .mv (.c (.v false (.int .i64 0))), none⟩] none)
   (.blk 0 (.loop pl31_0)))
  (.seq (.reg [4] [] [
     ⟨some 4, .mv (.c (.v false (.bool true))), none⟩] none)
   (.ret)))

def pf31 : PF := ⟨[.s 4], [], pb31⟩

-- loop.example/g00496/laws.FnExactMayAdvance
def pb112 : PC :=
.seq (.reg [0, 1] [] [
   ⟨some 4, .mv (.c (.v false (.bool false))), none⟩] none)
 (.seq (.seq (.reg [0, 1, 10] [] [
     ⟨some 8, .mv (.t 0), none⟩,
     ⟨some 9, .len (.t 8), none⟩,
     ⟨some 10, .bin .gtr (.t 9) (.c (.v false (.int .i64 1048576))), none⟩] none)
   (.cond (.t 10) (.seq (.reg [4] [] [
       ⟨some 4, .mv (.c (.v false (.bool true))), none⟩] none)
     (.ret))
    (.skip)))
  (.seq (.reg [0, 1, 5] [(14, 5)] [
     ⟨some 11, .mv (.t 0), none⟩,
     ⟨some 12, .call 244 [] [(.t 11)], none⟩,
     ⟨some 13, .mv (.t 1), none⟩,
     ⟨some 14, .call 310 [] [(.t 12), (.t 13)], none⟩,
     ⟨some 5, .mv (.t 14), none⟩] none)
   (.seq (.reg [0, 1, 5, 6] [(16, 6)] [
      ⟨some 15, .mv (.t 0), none⟩,
      ⟨some 16, .call 244 [] [(.t 15)], none⟩,
      ⟨some 6, .mv (.t 16), none⟩] none)
    (.seq (.reg [0, 5, 6, 7] [(19, 7)] [
       ⟨some 17, .mv (.t 6), none⟩,
       ⟨some 18, .mv (.t 1), none⟩,
       ⟨some 19, .call 31 [] [(.t 17), (.t 18)], none⟩,
       ⟨some 7, .mv (.t 19), none⟩] none)
     (.seq (.seq (.reg [0, 6, 22] [] [
         ⟨some 20, .mv (.t 7), none⟩,
         ⟨some 21, .mv (.t 5), none⟩,
         ⟨some 22, .eqb true (.t 20) (.t 21), none⟩] none)
       (.cond (.t 22) (.seq (.reg [4] [] [
           ⟨some 4, .mv (.c (.v false (.bool false))), none⟩] none)
         (.ret))
        (.skip)))
      (.seq (.seq (.reg [27] [] [
          ⟨some 23, .mv (.t 6), none⟩,
          ⟨some 24, .mv (.t 0), none⟩,
          ⟨some 25, .call 244 [] [(.t 24)], none⟩,
          ⟨some 26, .call 152 [] [(.t 23), (.t 25)], none⟩,
          ⟨some 27, .un .not (.t 26), none⟩] none)
        (.cond (.t 27) (.seq (.reg [4] [] [
            ⟨some 4, .mv (.c (.v false (.bool false))), none⟩] none)
          (.ret))
         (.skip)))
       (.seq (.reg [4] [] [
          ⟨some 4, .mv (.c (.v false (.bool true))), none⟩] none)
        (.ret))))))))

def pf112 : PF := ⟨[.s 4], [], pb112⟩

-- loop.example/g00496/laws.eqIntS
def pl152_0 : PC :=
.seq (.seq (.reg [0, 1, 5, 14] [] [
          ⟨some 11, .mv (.t 5), none⟩,
          ⟨some 12, .mv (.t 0), none⟩,
          ⟨some 13, .len (.t 12), none⟩,
          ⟨some 14, .bin .lss (.t 11) (.t 13), none⟩] none)
        (.cond (.t 14) (.skip)
         (.exit 0)))
       (.seq (.blk 1 (.seq (.reg [0, 1, 5, 25] [] [
            ⟨some 17, .mv (.t 0), none⟩,
            ⟨some 18, .mv (.t 5), none⟩,
            ⟨some 19, .iad 1 (.t 17) (.t 18), none⟩,
            ⟨some 20, .ld false 1 (.t 19), none⟩,
            ⟨some 21, .mv (.t 1), none⟩,
            ⟨some 22, .mv (.t 5), none⟩,
            ⟨some 23, .iad 1 (.t 21) (.t 22), none⟩,
            ⟨some 24, .ld false 1 (.t 23), none⟩,
            ⟨some 25, .bin .neq (.t 20) (.t 24), none⟩] (some []))
          (.cond (.t 25) (.seq (.reg [4] [] [
              ⟨some 4, .mv (.c (.v false (.bool false))), none⟩] none)
            (.ret))
           (.skip))))
        (.reg [0, 1, 5] [] [
          ⟨some 15, .mv (.t 5), none⟩,
          ⟨some 16, .bin .add (.t 15) (.c (.v false (.int .i64 1))), none⟩,
          ⟨some 5, .mv (.t 16), none⟩] none))

def pb152 : PC :=
.seq (.reg [0, 1] [] [
   ⟨some 4, .mv (.c (.v false (.bool false))), none⟩] none)
 (.seq (.seq (.reg [0, 1, 10] [] [
     ⟨some 6, .mv (.t 0), none⟩,
     ⟨some 7, .len (.t 6), none⟩,
     ⟨some 8, .mv (.t 1), none⟩,
     ⟨some 9, .len (.t 8), none⟩,
     ⟨some 10, .bin .neq (.t 7) (.t 9), none⟩] none)
   (.cond (.t 10) (.seq (.reg [4] [] [
       ⟨some 4, .mv (.c (.v false (.bool false))), none⟩] none)
     (.ret))
    (.skip)))
  (.seq (.seq (.reg [0, 1, 5] [] [
      ⟨some 5, .mv (.c (.v false (.int .i64 0))), none⟩] none)
    (.blk 0 (.loop pl152_0)))
   (.seq (.reg [4] [] [
      ⟨some 4, .mv (.c (.v false (.bool true))), none⟩] none)
    (.ret))))

def pf152 : PF := ⟨[.s 4], [], pb152⟩

-- loop.example/g00496/laws.toIntS
def pl244_0 : PC :=
.seq (.seq (.reg [0, 3, 4, 11] [] [
          ⟨some 8, .mv (.t 4), none⟩,
          ⟨some 9, .mv (.t 0), none⟩,
          ⟨some 10, .len (.t 9), none⟩,
          ⟨some 11, .bin .lss (.t 8) (.t 10), none⟩] none)
        (.cond (.t 11) (.skip)
         (.exit 0)))
       (.seq (.blk 1 (.reg [0, 3, 4] [] [
           ⟨some 14, .mv (.t 3), none⟩,
           ⟨some 15, .mv (.t 4), none⟩,
           ⟨some 16, .mv (.t 0), none⟩,
           ⟨some 17, .mv (.t 4), none⟩,
           ⟨some 18, .iad 1 (.t 16) (.t 17), none⟩,
           ⟨some 19, .ld false 1 (.t 18), none⟩,
           ⟨some 20, .iad 1 (.t 14) (.t 15), none⟩,
           ⟨none, .st 1 (.t 20) (.t 19), none⟩] none))
        (.reg [0, 3, 4] [] [
          ⟨some 12, .mv (.t 4), none⟩,
          ⟨some 13, .bin .add (.t 12) (.c (.v false (.int .i64 1))), none⟩,
          ⟨some 4, .mv (.t 13), none⟩] none))

def pb244 : PC :=
.seq (.reg [0] [] [
   ⟨some 2, .mv (.c (.nl 1)), none⟩] none)
 (.seq (.reg [0, 3] [(7, 3)] [
    ⟨some 5, .mv (.t 0), none⟩,
    ⟨some 6, .len (.t 5), none⟩,
    ⟨some 7, .mks 1 8 [.int .i64 0] (.t 6), none⟩,
    ⟨some 3, .mv (.t 7), none⟩] none)
  (.seq (.seq (.reg [0, 3, 4] [] [
      ⟨some 4, .mv (.c (.v false (.int .i64 0))), none⟩] none)
    (.blk 0 (.loop pl244_0)))
   (.seq (.reg [2, 3] [] [
      ⟨some 21, .mv (.t 3), none⟩,
      ⟨some 2, .mv (.t 21), none⟩] none)
    (.ret))))

def pf244 : PF := ⟨[.s 2], [], pb244⟩

-- loop.example/g00496/spec.MayAdvance
def pl310_0 : PC :=
.seq (.seq (.reg [0, 1, 5, 9] [] [
         ⟨some 6, .mv (.t 5), none⟩,
         ⟨some 7, .mv (.t 0), none⟩,
         ⟨some 8, .len (.t 7), none⟩,
         ⟨some 9, .bin .lss (.t 6) (.t 8), none⟩] none)
       (.cond (.t 9) (.skip)
        (.exit 0)))
      (.seq (.blk 1 (.seq (.reg [0, 1, 5, 24] [] [
           ⟨some 12, .mv (.t 0), none⟩,
           ⟨some 13, .mv (.t 5), none⟩,
           ⟨some 14, .iad 1 (.t 12) (.t 13), none⟩,
           ⟨some 15, .ld false 1 (.t 14), none⟩,
           ⟨some 16, .bin .neq (.t 15) (.c (.v false (.int .i64 (-1)))), none⟩,
           ⟨some 17, .mv (.t 16), none⟩,
           ⟨some 18, .mv (.t 0), some (17, true)⟩,
           ⟨some 19, .mv (.t 5), some (17, true)⟩,
           ⟨some 20, .iad 1 (.t 18) (.t 19), some (17, true)⟩,
           ⟨some 21, .ld false 1 (.t 20), some (17, true)⟩,
           ⟨some 22, .mv (.t 1), some (17, true)⟩,
           ⟨some 23, .bin .neq (.t 21) (.t 22), some (17, true)⟩,
           ⟨some 24, .pick (.t 17) (.t 23) (.c (.v false (.bool false))), none⟩] none)
         (.cond (.t 24) (.seq (.reg [4] [] [
             ⟨some 4, .mv (.c (.v false (.bool false))), none⟩] none)
           (.ret))
          (.skip))))
       (.reg [0, 1, 5] [] [
         ⟨some 10, .mv (.t 5), none⟩,
         ⟨some 11, .bin .add (.t 10) (.c (.v false (.int .i64 1))), none⟩,
         ⟨some 5, .mv (.t 11), none⟩] none))

def pb310 : PC :=
.seq (.reg [0, 1] [] [
   ⟨some 4, .mv (.c (.v false (.bool false))), none⟩] none)
 (.seq (.seq (.reg [0, 1, 5] [] [
     ⟨some 5, .mv (.c (.v false (.int .i64 0))), none⟩] none)
   (.blk 0 (.loop pl310_0)))
  (.seq (.reg [4] [] [
     ⟨some 4, .mv (.c (.v false (.bool true))), none⟩] none)
   (.ret)))

def pf310 : PF := ⟨[.s 4], [], pb310⟩

end Go.Proofs.Ytphnbkhopedpgaa.OM
